/- A part of the proof. -/
import Derived.LoopN
import Derived.Test.YthknocapablpaaaGreatDoorAi17
import Derived.Test.YthknocapablpaaaGreatDoorAi20
import Derived.Test.YthknocapablpaaaGreatDoorAi31
namespace Go.Proofs.YthknocapablpaaaGreatDoor
/- journal.Encode: some text, not too long. -/
section
open Go.RowKit
set_option maxRecDepth 100000

/-- copyCheck: only the builder's own block turns, and its buffer stays. -/
theorem copy_keep (B b:Nat)(bs:List Value)(w:World)(p v0:Value)(hv0:w.heap[b]? = some (.cells #[p,v0] 263 (0,0)))(h:Lib.IsBuilder 263 5 B b bs w) :
  Calls Tryz.prog 250 #[.pointer (some ⟨b,0,none⟩)] w fun e w'=>e = .returned (.tuple #[])∧Lib.BuilderAt 263 5 B b (.pointer (some ⟨b,0,none⟩)) bs w'∧Below B w w'∧Kept (fun q=>q=b) w w'∧∃ q,w'.heap[b]? = some (.cells #[q,v0] 263 (0,0)):=by
 rcases h with h | h
 ·refine (copy_fresh b 0 2 w h.cell0 h.shape (by decide) (by kernel_rfl) h.frozen0).mono ?_
  rintro e w' ⟨rfl,rfl⟩
  refine ⟨rfl,h.used _,(Below.refl B w).setCell (p:=⟨b,0,none⟩) h.1 _,(Kept.refl _ _).setAt (fun _=>rfl),.pointer (some ⟨b,0,none⟩),?_⟩
  simp [World.setCell,Array.getElem?_modify,hv0]
 ·refine (copy_used b 0 w h.cell0).mono ?_
  rintro e w' ⟨rfl,rfl⟩
  exact ⟨rfl,h,Below.refl B _,Kept.refl _ _,_,hv0⟩
set_option maxHeartbeats 2000000 in
theorem wri_keep (B b:Nat)(bs:List Value)(s:ByteArray)(w:World)(p v0:Value)(hv0:w.heap[b]? = some (.cells #[p,v0] 263 (0,0)))(h:Lib.IsBuilder 263 5 B b bs w)(hlen:bs.length+s.size≤140737488355328)(hBw:B≤w.heap.size) :
  Calls Tryz.prog 163 #[.pointer (some ⟨b,0,none⟩),.string s] w fun e w'=>e = .returned (.tuple #[.int .i64 s.size,.nilIface])∧(Lib.BuilderAt 263 5 B b (.pointer (some ⟨b,0,none⟩)) (bs++Lib.strCells s) w'∧Below B w w'∧Kept (fun q=>q=b∨v0.ownBlock=some q) w w'):=by
 obtain ⟨i0,hi,hz0,hz1,hz2⟩:=info_parts bExtra.infoByte
 go_enter Tryz.func163,Tryz.ntmps163
 go_wp2_with (go_at_call 250;refine (copy_keep B b bs _ p v0 hv0 h).mono ?_)
 rintro e w1 ⟨rfl,h1,hb1,kc,q,hq⟩
 obtain ⟨hB,v,hbk,hown,hne⟩:=h1
 obtain rfl:v=v0:=by
  have:=hbk.symm.trans hq
  simp at this
  exact this.2
 have c0:w1.cell? ⟨b,0,none⟩=some (.pointer (some ⟨b,0,none⟩)):=by rw [Lib.cell_of_heap hbk];rfl
 have c1:w1.cell? ⟨b,1,none⟩=some v:=by rw [Lib.cell_of_heap hbk];rfl
 go_wp2_with (at_builtin;refine Lib.wpList_append_own_string _ rfl _ _ 48 9 rfl B 5 i0 Tryz.underlying48 Tryz.underlying9 hi hz0 hz1 hz2 _ _ _ rfl hown s rfl ?c3 ?c4 ?c5 ?_)
 case c3=>unfold maxLen;omega
 case c4=>omega
 case c5=>have:=hb1.size;omega
 intro v' w2 hown' hgrow _
 have hlt:b<w1.heap.size:=by
  rcases Nat.lt_or_ge b w1.heap.size with h' | h'
  ·exact h'
  ·simp [Array.getElem?_eq_none h'] at hbk
 have hb2:w2.heap[b]? = some (.cells #[.pointer (some ⟨b,0,none⟩),v] 263 (0,0)):=by
  rw [hgrow.block b hlt (fun e=>hne e.symm)]
  exact hbk
 have d0:w2.cell? ⟨b,0,none⟩=some (.pointer (some ⟨b,0,none⟩)):=by rw [Lib.cell_of_heap hb2];rfl
 have d1:w2.cell? ⟨b,1,none⟩=some v:=by rw [Lib.cell_of_heap hb2];rfl
 have f1:w2.frozen? ⟨b,1,none⟩=false:=Lib.frozen_of_heap hb2 1
 obtain ⟨ao,n',cap,rfl⟩:∃ ao n' cap,v' = .slice ao n' cap:=by
  rcases hown'.2 with ⟨hv,_⟩ | ⟨g,cap,cur,hv,_⟩
  ·exact ⟨_,_,_,hv⟩
  ·exact ⟨_,_,_,hv⟩
 go_wp2
 go_ret2
 refine ⟨rfl,?_,?_,?_⟩
 ·exact Lib.BuilderAt.put (T:=263) (e:=5) hB hb2 (bs':=bs++Lib.strCells s) (by simpa [Lib.strCells_length] using hown') bExtra.neB5
 ·exact (hb1.grown hgrow (by have:=hb1.size;omega) (fun k hk=>(hown.lt k hk).1)).setCell (p:=⟨b,1,none⟩) hB _
 ·exact (Kept.setAt (fun _=>.inl rfl) ((kc.mono (fun k _ e=>.inl e)).grown hgrow (fun k hk _=>.inr hk)))
set_option maxHeartbeats 4000000 in
theorem bcheck_any (c:Cel)(h:mayC c=true)(w:World):Calls Tryz.prog 162 #[c.val] w fun e w'=>e = .returned (.int .i64 0)∧Kept (fun _=>False) w w':=by
 have MY:=Lib.hid (fun (W:World)=>may_any c W)
 rw [h] at MY
 obtain ⟨ck,cs,cv⟩:=c
 unfold Cel.val at MY ⊢
 go_enter Tryz.func162,Tryz.ntmps162
 go_wp2_with (go_at_call 203;refine (MY.out _).mono ?_;rintro e w4 ⟨rfl,kk⟩)
 go_ret
 exact ⟨rfl,((Kept.refl _ _).alloc _).trans kk (fun _ _ f=>f) (fun _ _ f=>f)⟩
end
/- journal.Encode: some text, not too long. -/
section
open Go.RowKit
set_option maxRecDepth 100000

/-- A cell's bytes in the journal. -/
def celT (c:Cel):ByteArray:=ptxt c.k++putF c.s++ptxt c.v
set_option maxHeartbeats 8000000 in
theorem jenc_any {w:World}{ao:Option Addr}{cap:Nat}{L:List Cel}(R:CelsR w ao L)(hm:∀ c∈L,mayC c=true∧c.s≤9223372036854775807)(hl:L.length≤1000) :
  Calls Tryz.prog 97 #[.slice ao L.length cap] w fun e w'=>(∃ b:ByteArray,b.size≤230 * L.length∧e = .returned (.tuple #[.string b,.int .i64 0]))∧Kept (fun _=>False) w w':=by
 obtain ⟨n,hn⟩:∃ n,L.length=n:=⟨_,rfl⟩
 have HN:=Lib.hid hn
 obtain ⟨B,hB⟩:∃ B,w.heap.size=B:=⟨_,rfl⟩
 obtain ⟨W0,hW0⟩:∃ W,w.alloc (Obj.cells #[.pointer none,.slice none 0 0] 263)=W:=⟨_,rfl⟩
 have k0:Kept (fun _=>False) w W0:=by rw [← hW0];exact (Kept.refl _ _).alloc _
 have b0:=Lib.fresh_isBuilder 263 5 w
 rw [hW0,hB] at b0
 have K0:=Lib.hid k0
 have B0:=Lib.hid b0
 have RR:=Lib.hid R
 have HM:=Lib.hid hm
 have HB:=Lib.hid hB
 have HL:=Lib.hid hl
 rw [hn] at hl ⊢
 clear R hm hn k0 b0
 go_enter Tryz.func97,Tryz.ntmps97
 go_wp2_with fail
 go_loopg [10] n (fun gh t10 wr=>∃ (i:Nat) (l:List UInt8),i+gh=n∧t10 = .int .i64 i∧l.length≤230 * i∧Lib.IsBuilder 263 5 B B (Lib.byteCells l) wr∧Kept (fun _=>False) w wr)
 case atStart=>exact ⟨0,[],by omega,rfl,by simp,B0.out,K0.out⟩
 case round=>
  obtain ⟨i,l,hgh,rfl,hll,hb,hk⟩:=hrel
  cases gk with
  | zero=>
   have hi:i=n:=by omega
   subst hi
   have HBB:=Lib.hid hb
   have HK:=Lib.hid hk
   clear hb hk
   go_wp2_with (go_at_call 166;refine (str_all B B l _ HBB.out (by have:=HB.out;have:=HK.out.size;omega)).mono ?_;rintro e w5 ⟨rfl,l5⟩)
   go_ret2
   exact ⟨⟨_,by simp [ByteArray.size];omega,rfl⟩,HK.out.trans (below_kept l5) (fun _ _ f=>f) (fun b hb f=>by have:=HB.out;omega)⟩
  | succ gk=>
   have hi:i<L.length:=by have:=HN.out;omega
   have hne:¬ L=[]:=fun e=>by rw [e] at hi;simp at hi
   obtain ⟨c,hc⟩:∃ c,L[i]? = some c:=⟨_,List.getElem?_eq_getElem hi⟩
   obtain ⟨g,o,rfl,hcl⟩:=RR.out.resolve_left hne
   obtain ⟨x0,x1,x2⟩:=(hcl i c hc).kept hk
   obtain ⟨hmay,hsi⟩:=HM.out c (List.mem_of_getElem? hc)
   have CH:=Lib.hid (fun (W:World)=>bcheck_any c hmay W)
   have SI:=Lib.hid hsi
   have i1:((i:Nat):Int)<(n:Int):=by omega
   have i2:(0:Int)≤(i:Int):=by omega
   have i4:wrap64 ((i:Int)+1)=((i+1:Nat):Int):=by have:=HL.out;unfold wrap64;omega
   obtain ⟨sk,sv⟩:c.k.size≤64∧c.v.size≤128:=by
    unfold mayC at hmay
    simp at hmay
    omega
   obtain ⟨ck,cs,cv⟩:=c
   have SK:=Lib.hid sk
   have SV:=Lib.hid sv
   unfold Cel.val at CH
   simp only at SK SV SI x0 x1 x2
   have GH:=Lib.hid hgh
   have HK:=Lib.hid hk
   have HBB:=Lib.hid hb
   have LN0:=Lib.hid hll
   obtain ⟨cb,hcb⟩:∃ q,wr.heap.size=q:=⟨_,rfl⟩
   obtain ⟨W1,hW1⟩:∃ W,wr.alloc (Obj.cells #[.string ck,.int .i64 cs,.string cv] 132)=W:=⟨_,rfl⟩
   have k1:Kept (fun _=>False) wr W1:=by rw [← hW1];exact (Kept.refl _ _).alloc _
   have y0:W1.cell? ⟨cb,0,none⟩=some (.string ck):=by rw [← hW1,← hcb];simp [go_sem]
   have y1:W1.cell? ⟨cb,1,none⟩=some (.int .i64 cs):=by rw [← hW1,← hcb];simp [go_sem]
   have y2:W1.cell? ⟨cb,2,none⟩=some (.string cv):=by rw [← hW1,← hcb];simp [go_sem]
   have K1:=Lib.hid k1
   clear hgh hk hb hll hc hcl hi hne hmay hsi sk sv k1
   go_wp2_with (go_at_call 162;refine (CH.out _).mono ?_;rintro e w2 ⟨rfl,k2⟩;(have K2:=Lib.hid (K1.out.trans k2 (fun _ _ f=>f) (fun _ _ f=>f)));(have X0:=Lib.hid (k2.cell y0 (fun f=>f)));(have X1:=Lib.hid (k2.cell y1 (fun f=>f)));(have X2:=Lib.hid (k2.cell y2 (fun f=>f)));clear k2)
   have B2:=Lib.hid (IsBuilder.keptF HBB.out K2.out)
   obtain ⟨p0,v0,hv0,hv1⟩:∃ p0 v0,wr.heap[B]? = some (.cells #[p0,v0] 263 (0,0))∧∀ q,v0.ownBlock=some q→q<wr.heap.size:=by
    rcases HBB.out with ⟨_,v,h1,h2,_⟩ | ⟨_,v,h1,h2,_⟩ <;> exact ⟨_,v,h1,fun q hq=>(h2.lt q hq).2⟩
   have hBl:B<wr.heap.size:=(Array.getElem?_eq_some_iff.1 hv0).1
   have HV:=Lib.hid ((K2.out.block B hBl (fun f=>f)).trans hv0)
   have NB:=Lib.hid (show ¬ (cb=B∨v0.ownBlock=some cb) from fun e=>by
    rcases e with e | e
    ·omega
    ·have:=hv1 cb e;omega)
   have BW:=Lib.hid (show B<w2.heap.size from by have:=K2.out.size;omega)
   clear hv0 hv1 hBl
   have CT:=Lib.hid (show (ptxt ck++putF cs++ptxt cv).size≤230 from by
    rw [ByteArray.size_append,ByteArray.size_append]
    have:=ptxt_size ck
    have:=ptxt_size cv
    have:=putF_size cs
    have:=SK.out
    have:=SV.out
    omega)
   have LL:=Lib.hid (show i<1000 from by have:=GH.out;have:=HL.out;have:=HN.out;omega)
   have hq1:¬ 9223372036854775807<(ptxt ck).size+(putF cs).size:=by
    have:=ptxt_size ck
    have:=putF_size cs
    have:=SK.out
    omega
   have hq2:¬ 9223372036854775807<(ptxt ck).size+(putF cs).size+(ptxt cv).size:=by
    have:=ptxt_size ck
    have:=ptxt_size cv
    have:=putF_size cs
    have:=SK.out
    have:=SV.out
    omega
   clear y0 y1 y2 hcb hW1 x0 x1 x2
   refine wp_region_held_drew (S:=(fun w'=>w'.cell? ⟨cb,0,none⟩=some (.string ck)∧w'.cell? ⟨cb,1,none⟩=some (.int .i64 cs)∧w'.cell? ⟨cb,2,none⟩=some (.string cv))) (by kernel_rfl) ?_ (fun hHeld=>?_)
   ·exact ⟨X0.out,X1.out,X2.out⟩
   refine tW 0 opAt0 hHeld ?_
   try simp only [Act.put,z2,List.set]
   refine tW 1 opAt1 hHeld ?_
   try simp only [Act.put,z2,List.set]
   refine tW 3 opAt3 hHeld ?_
   try simp only [Act.put,z2,List.set]
   refine tW 4 opAt4 hHeld ?_
   try simp only [Act.put,z2,List.set]
   refine tW 7 opAt7 hHeld ?_
   try simp only [Act.put,z2,List.set]
   refine tW 8 opAt8 hHeld ?_
   try simp only [Act.put,z2,List.set]
   refine wpAnyH_ready (rs:=[2]) (by kernel_rfl) (by simp) ?_
   refine AllReadyH.cons opAt2 (fun K hK=>?_) AllReadyH.nil
   go_simp
   (go_at_call 164;refine (puttext_all _ _ (by have:=SK.out;omega)).mono ?_;rintro e wa ⟨rfl,kn⟩;(have KA:=Lib.hid ((Kept.refl (fun _=>False) w2).drew.trans kn (fun _ _ f=>f) (fun _ _ f=>f))))
   refine hK.out _ _ ?_ (fun hHeld=>?_)
   ·exact ⟨kn.cell hHeld.1 (fun f=>f),kn.cell hHeld.2.1 (fun f=>f),kn.cell hHeld.2.2 (fun f=>f)⟩
   clear hK K
   try simp only [Act.put,z2,List.set]
   refine wpAnyH_ready (rs:=[5]) (by kernel_rfl) (by simp) ?_
   refine AllReadyH.cons opAt5 (fun K hK=>?_) AllReadyH.nil
   go_simp
   (go_at_call 165;refine (put_all _ _ SI.out).mono ?_;rintro e wb ⟨rfl,kn⟩;(have KB:=Lib.hid (KA.out.trans kn (fun _ _ f=>f) (fun _ _ f=>f))))
   refine hK.out _ _ ?_ (fun hHeld=>?_)
   ·exact ⟨kn.cell hHeld.1 (fun f=>f),kn.cell hHeld.2.1 (fun f=>f),kn.cell hHeld.2.2 (fun f=>f)⟩
   clear hK K
   try simp only [Act.put,z2,List.set]
   refine tW 6 opAt6 hHeld ?_
   try simp only [Act.put,z2,List.set]
   refine wpAnyH_ready (rs:=[9]) (by kernel_rfl) (by simp) ?_
   refine AllReadyH.cons opAt9 (fun K hK=>?_) AllReadyH.nil
   go_simp
   (go_at_call 164;refine (puttext_all _ _ (by have:=SV.out;omega)).mono ?_;rintro e wc ⟨rfl,kn⟩;(have KC:=Lib.hid (KB.out.trans kn (fun _ _ f=>f) (fun _ _ f=>f))))
   refine hK.out _ _ ?_ (fun hHeld=>?_)
   ·exact ⟨kn.cell hHeld.1 (fun f=>f),kn.cell hHeld.2.1 (fun f=>f),kn.cell hHeld.2.2 (fun f=>f)⟩
   clear hK K
   try simp only [Act.put,z2,List.set]
   refine tW 10 opAt10 hHeld ?_
   try simp only [Act.put,z2,List.set]
   refine wpAnyH_ready (rs:=[11]) (by kernel_rfl) (by simp) ?_
   refine AllReadyH.cons opAt11 (fun K hK=>?_) AllReadyH.nil
   go_simp
   (go_at_call 163;refine (wri_keep B B _ _ _ p0 v0 ((KC.out.block B BW.out (fun f=>f)).trans HV.out) (IsBuilder.keptF B2.out KC.out) (by rw [Lib.byteCells_length];have:=LN0.out;have:=CT.out;have:=LL.out;omega) (by have:=KC.out.size;have:=BW.out;omega)).mono ?_;rintro e w9 ⟨rfl,b9,l9,kn⟩)
   refine hK.out _ _ ?_ (fun hHeld=>?_)
   ·exact ⟨kn.cell hHeld.1 NB.out,kn.cell hHeld.2.1 NB.out,kn.cell hHeld.2.2 NB.out⟩
   clear hK K
   try simp only [Act.put,z2,List.set]
   refine wpAnyH_done (by kernel_rfl) ?_ _
   go_wp2
   go_roundg gk
   case measure=>omega
   case rel=>
    refine ⟨i+1,l++(ptxt ck++putF cs++ptxt cv).data.toList,by have:=GH.out;omega,by simp,?_,?_,?_⟩
    ·rw [List.length_append]
     have h1:(ptxt ck++putF cs++ptxt cv).data.toList.length=(ptxt ck++putF cs++ptxt cv).size:=rfl
     have:=CT.out
     have:=LN0.out
     omega
    ·rw [Lib.byteCells_append, ← Lib.strCells_eq]
     exact .inr b9
    ·exact ((HK.out.trans K2.out (fun _ _ f=>f) (fun _ _ f=>f)).trans KC.out (fun _ _ f=>f) (fun _ _ f=>f)).trans (below_kept l9) (T:=fun _=>False) (fun _ _ f=>f) (fun b hb f=>by have:=HB.out;omega)
end
/- journal.Append: a batch lies on the disk. -/
section
open Go.RowKit
set_option maxRecDepth 100000

theorem totF_append (F:List Fl)(f:Fl):totF (F++[f])=totF F+f.d.size:=by
 simp [totF]
theorem totF_set:∀ {F:List Fl}{i:Nat}{f:Fl}(g:Fl),F[i]? = some f→totF (F.set i g)+f.d.size=totF F+g.d.size
 | [],i,f,g,h=>by simp at h
 | x::F,0,f,g,h=>by
  simp at h
  subst h
  simp [totF]
  omega
 | x::F,i+1,f,g,h=>by
  have h':F[i]? = some f:=by simpa using h
  have ih:=totF_set g h'
  simp [totF] at ih ⊢
  omega
theorem empty_append_size (s:ByteArray):((⟨#[]⟩:ByteArray)++s).size=s.size:=by
 rw [ByteArray.size_append]
 have h:(⟨#[]⟩:ByteArray).size=0:=rfl
 omega
/-- What a disk's files are, roughly. -/
structure FlsOk (F:List Fl) (n t:Nat):Prop where
 nm:∀ f∈F,f.n.size≤16
 ln:F.length≤n
 tt:totF F≤t
theorem dappend_any {w:World}{d fm:Nat}{room:Int}{F:List Fl}{s:ByteArray}{n t:Nat}(D:DiskOk w d fm room F)(O:FlsOk F n t)(hn:n≤900)(ht:(t:Int)+s.size≤room)(hr:room≤1048576) :
  Calls Tryz.prog 170 #[.pointer (some ⟨d,0,none⟩),.string j1,.string s] w fun e w'=>e = .returned (.int .i64 0)∧(∃ (F':List Fl) (i:Nat) (f':Fl),DiskOk w' d fm room F'∧F'[i]? = some f'∧f'.n=j1∧FlsOk F' (n+1) (t+s.size))∧Kept (fun b=>b=fm) w w':=by
 have j1s:j1.size=2:=rfl
 have h1:=O.ln
 have h2:=O.tt
 by_cases h:∃ (i:Nat) (f:Fl),F[i]? = some f∧f.n=j1
 ·obtain ⟨i, f, hf, hfn⟩ := h
  have A:=append_old (s:=s) D hf O.nm (by omega) (by rw [hfn,j1s];omega) (by omega) hr
  rw [hfn] at A
  refine A.mono ?_
  rintro e w' ⟨rfl,D',K⟩
  have hil:=(List.getElem?_eq_some_iff.1 hf).1
  refine ⟨rfl,⟨_,i,⟨j1,f.d++s,f.s⟩,D',?_,rfl,?_,?_,?_⟩,K⟩
  ·rw [List.getElem?_set];simp [hil]
  ·intro x hx
   rcases List.mem_or_eq_of_mem_set hx with h | rfl
   ·exact O.nm x h
   ·simp [j1s]
  ·rw [List.length_set];omega
  ·have := totF_set (⟨j1, f.d ++ s, f.s⟩ : Fl) hf
   simp only [ByteArray.size_append] at this
   omega
 ·have hf:∀ f∈F,f.n≠j1:=fun f hf e=>h (by
   obtain ⟨i,hi,ei⟩:=List.getElem_of_mem hf
   exact ⟨i,f,List.getElem?_eq_some_iff.2 ⟨hi,ei⟩,e⟩)
  refine (append_new (s:=s) D hf (by rw [j1s];omega) O.nm (by omega) (by rw [j1s];omega) (by omega) hr).mono ?_
  rintro e w' ⟨rfl,D',K⟩
  refine ⟨rfl,⟨_,F.length,⟨j1,⟨#[]⟩++s,0⟩,D',by simp,rfl,?_,?_,?_⟩,K⟩
  ·intro x hx
   rcases List.mem_append.1 hx with h | h
   ·exact O.nm x h
   ·simp at h;subst h;simp [j1s]
  ·rw [List.length_append];simp;omega
  ·rw [totF_append]
   simp only [empty_append_size]
   omega
theorem dsync_any {w:World}{d fm:Nat}{room:Int}{F:List Fl}{i n t:Nat}{f:Fl}(D:DiskOk w d fm room F)(hf:F[i]? = some f)(hn:f.n=j1)(O:FlsOk F n t) :
  Calls Tryz.prog 172 #[.pointer (some ⟨d,0,none⟩),.string j1] w fun e w'=>e = .returned (.int .i64 0)∧(∃ F',DiskOk w' d fm room F'∧FlsOk F' n t)∧Kept (fun b=>b=fm) w w':=by
 have A:=sync_any D hf
 rw [hn] at A
 refine A.mono ?_
 rintro e w' ⟨rfl,D',K⟩
 refine ⟨rfl,⟨_,D',?_,by rw [List.length_set];exact O.ln,?_⟩,K⟩
 ·intro x hx
  rcases List.mem_or_eq_of_mem_set hx with h | rfl
  ·exact O.nm x h
  ·show j1.size ≤ 16
   have j1s:j1.size=2:=rfl
   omega
 ·have := totF_set (⟨j1, f.d, (f.d.size : Nat)⟩ : Fl) hf
  have:=O.tt
  simp only at *
  omega
set_option maxHeartbeats 8000000 in
theorem jappend_any {w:World}{j d fm:Nat}{room:Int}{F:List Fl}{n t:Nat}{ao:Option Addr}{cap:Nat}{L:List Cel}(J:JrnOk w j d 1)(D:DiskOk w d fm room F)(O:FlsOk F n t)(hn:n≤900)(R:CelsR w ao L)(hm:∀ c∈L,mayC c=true∧c.s≤9223372036854775807)(hl:L.length≤50)(hne:L≠[])
  (ht:(t:Int)+8+230 * L.length≤room)(hr:room≤1048576) :
  Calls Tryz.prog 99 #[.pointer (some ⟨j,0,none⟩),.slice ao L.length cap] w fun e w'=>e = .returned (.int .i64 0)∧(∃ F',DiskOk w' d fm room F'∧FlsOk F' (n+1) (t+8+230 * L.length))∧Kept (fun b=>b=fm) w w':=by
 have jf:¬ j=fm:=fun e=>by
  have h1:=J.c0
  rw [e,D.mp.not_cell] at h1
  cases h1
 have JJ:=Lib.hid J
 have DD:=Lib.hid D
 have OO:=Lib.hid O
 have AS:=Lib.hid (jask_any J D)
 have EN:=Lib.hid (fun (W:World) (K:Kept (fun _=>False) w W)=>jenc_any (w:=W) (cap:=cap) (R.kept K) hm (by omega))
 obtain ⟨m,hm'⟩:∃ m,L.length=m:=⟨_,rfl⟩
 have m0:¬ ((m:Int)=0):=fun e=>by
  have:L.length=0:=by omega
  exact hne (List.eq_nil_of_length_eq_zero this)
 rw [hm'] at EN ht hl ⊢
 have HT:=Lib.hid ht
 have HR:=Lib.hid hr
 have HN:=Lib.hid hn
 have HL:=Lib.hid hl
 clear J D O R hm hne ht hr hn hl hm'
 go_enter Tryz.func99,Tryz.ntmps99
 go_wp2_with (first
  | (go_at_call 168;refine AS.out.mono ?_;rintro e w1 ⟨rfl,k1⟩;(have K1:=Lib.hid k1);clear k1)
  | (go_at_call 97;refine (EN.out _ K1.out).mono ?_;rintro e w2 ⟨⟨b,hb,rfl⟩,k2⟩;(have K2:=Lib.hid (K1.out.trans k2 (fun _ _ f=>f) (fun _ _ f=>f)));(have HB:=Lib.hid hb);clear k2 hb)
  | (go_at_call 169;refine (frame_any b (by have:=HB.out;have:=HL.out;omega) _).mono ?_;rintro e w3 ⟨⟨f,hf,rfl⟩,k3⟩;(have K3:=Lib.hid (K2.out.trans k3 (fun _ _ f=>f) (fun _ _ f=>f)));(have HF:=Lib.hid hf);clear k3 hf))
 have x0:=K3.out.cell JJ.out.c0 (fun f=>f)
 have x3:=K3.out.cell JJ.out.c3 (fun f=>f)
 have D3:=Lib.hid (DD.out.kept K3.out (fun f=>f) (fun f=>f))
 go_region_held3 (fun w'=>w'.cell? ⟨j,0,none⟩=some (.pointer (some ⟨d,0,none⟩))∧w'.cell? ⟨j,3,none⟩=some (.int .i64 1)) (first | go_keep | (go_split_ands;exact ⟨kk.cell (by assumption) jf,kk.cell (by assumption) jf⟩))
  (first
   | (go_at_call 170;refine (dappend_any (D3.out.kept (Kept.refl (fun _=>False) _).drew (fun f=>f) (fun f=>f)) OO.out HN.out (by have:=HF.out;have:=HB.out;have:=HT.out;omega) HR.out).mono ?_;rintro e w4 ⟨rfl,⟨F4,i4,f4,d4,hf4,hn4,o4⟩,kk⟩;(have K4:=Lib.hid (K3.out.drew.trans kk (T:=fun b=>b=fm) (fun _ _ f=>f.elim) (fun _ _ f=>f)));(have D4:=Lib.hid d4);(have HF4:=Lib.hid (And.intro hf4 hn4));(have O4:=Lib.hid o4);clear d4 hf4 hn4 o4)
   | (go_at_call 171;refine (named1 _).mono ?_;rintro e w9 ⟨rfl,rfl⟩))
 have y0:=K4.out.cell JJ.out.c0 jf
 have y3:=K4.out.cell JJ.out.c3 jf
 clear x0 x3 kk
 go_wp2_with fail
 go_region_held3 (fun w'=>w'.cell? ⟨j,0,none⟩=some (.pointer (some ⟨d,0,none⟩))∧w'.cell? ⟨j,3,none⟩=some (.int .i64 1)) (first | go_keep | (go_split_ands;exact ⟨kk.cell (by assumption) jf,kk.cell (by assumption) jf⟩))
  (first
   | (go_at_call 172;refine (dsync_any (D4.out.kept (Kept.refl (fun _=>False) _).drew (fun f=>f) (fun f=>f)) HF4.out.1 HF4.out.2 O4.out).mono ?_;rintro e w5 ⟨rfl,⟨F5,d5,o5⟩,kk⟩;(have K5:=Lib.hid (K4.out.drew.trans kk (T:=fun b=>b=fm) (fun _ _ f=>f) (fun _ _ f=>f)));(have D5:=Lib.hid d5);(have O5:=Lib.hid o5);clear d5 o5)
   | (go_at_call 171;refine (named1 _).mono ?_;rintro e w9 ⟨rfl,rfl⟩))
 go_wp2_with fail
 go_ret
 refine ⟨rfl,⟨F5,D5.out,O5.out.nm,O5.out.ln,?_⟩,K5.out⟩
 have:=O5.out.tt
 have:=HF.out
 have:=HB.out
 omega
end
/- Calls by evaluation from blocks that are only read; edits.Check and manifest.State at the state that a new manifest has. -/
section
open Go.RowKit Go.Lib Go.Eng
set_option maxRecDepth 100000

theorem globs:Tryz.prog.globals.size=6:=by kernel_rfl
theorem noGo:NoGo Tryz.prog=true:=by decide +kernel
def envT (W:World):Env:=⟨fun _=>undef,fun k=>W.heap[k]?⟩
/-- A heap of names that are only read, wherever their cells begin. -/
structure RoO (s:Sig) (h:Heap) (c:Nat) (w:World):Prop where
 glob:∀ g,g<6→s g=some ⟨g,0,0⟩
 new:∀ n,c≤n→s n=none
 obj:∀ n o,h.get n=some o→∃ b f,s n=some ⟨b,f,0⟩∧∃ t cs,o = .ro t cs∧∃ (a:Array Value) (fr:Nat × Nat) (vs:List Value) (t:TypeId),w.heap[b]? = some (.cells a t fr)∧concs s (envT w) cs=some vs∧(∀ (i:Nat) (v:Value),vs[i]? = some v→a[f+i]? = some v)∧allOne vs=true
 inj:∀ n m l k,(h.get n).isSome=true→(h.get m).isSome=true→s n=some l→s m=some k→l.blk=k.blk→n=m
theorem RoO.start {s:Sig}{h:Heap}{c:Nat}{w:World}(H:RoO s h c w):HR Tryz.prog s (envT w) h c w:=by
 refine ⟨fun n o hn=>?_,H.inj,H.new,fun g hg=>⟨0,H.glob g (by rwa [globs] at hg)⟩⟩
 obtain ⟨b,f,h1,t,cs,rfl,a,fr,vs,t0,g1,g2,g3,g4⟩:=H.obj n o hn
 exact ⟨_,h1,a,fr,vs,t0,g1,g2,g3,g4,g1⟩
theorem RoO.stop {s σ':Sig}{h h':Heap}{c c':Nat}{w w':World}(H:RoO s h c w)(W:Went Tryz.prog (envT w) s h c w σ' h' c' w')(hk:∀ n o,h.get n=some o→∃ t cs,h'.get n=some (.ro t cs)):Kept (fun _=>False) w w':=by
 refine ⟨W.kept.os,W.kept.tape,W.kept.output,W.kept.size,fun k hk' _=>?_⟩
 by_cases q:Liv s h k
 ·obtain ⟨n, l, h1, h2, rfl⟩ := q
  cases e:h.get n with
  | none=>rw [e] at h1;cases h1
  | some o=>
   obtain ⟨b,f,k1,t,cs,rfl,a,fr,vs,t0,g1,_,_,_⟩:=H.obj n o e
   rw [k1] at h2
   cases h2
   obtain ⟨t',cs',e'⟩:=hk n _ e
   obtain ⟨l',hl',a',fr',vs',t0',g1',_,_,_,g5'⟩:=W.rel.obj n _ e'
   rw [W.ext _ _ k1] at hl'
   cases hl'
   show w'.heap[b]? = w.heap[b]?
   simp only at g1' g5'
   rw [g1']
   exact g5'.symm
 ·exact W.kept.block k hk' q
/-- What an evaluation comes to, and that the names that are only read are there. -/
noncomputable def isChk (n:Nat)(h:Heap)(ck:AV→Heap→Bool):Option CRes→Bool
 | some (.mk u h' _)=>ck u h' && roSame n h h'
 | none=>false
theorem calls_roN {s:Sig}{n f c:Nat}{fn:Func}{args:List AV}{h:Heap}{ck:AV→Heap→Bool}(he:isChk c h ck (callE Tryz.prog sm0 n (.fn f) args h c)=true)(hf:Tryz.prog.funcs[f]? = some fn)(hb:fn.body.isSome=true){w:World}{avs:List Value}(H:RoO s h c w)(hc:∀ m o,h.get m=some o→m<c)(ha:concs s (envT w) args=some avs) :
  Calls Tryz.prog f avs.toArray w fun e w'=>(∃ v h' c' u σ',ck v h'=true∧e = .returned u∧conc σ' (envT w) v=some u∧HR Tryz.prog σ' (envT w) h' c' w'∧Ext s σ'∧(∀ m o,h.get m=some o→∃ t cs,h'.get m=some (.ro t cs))∧∀ b,b<w.heap.size→Liv σ' h' b→Liv s h b)∧Kept (fun _=>False) w w':=by
 obtain ⟨v,h',c',he,hr⟩:∃ v h' c',callE Tryz.prog sm0 n (.fn f) args h c=some (.mk v h' c')∧(ck v h' && roSame c h h')=true:=by
  cases e:callE Tryz.prog sm0 n (.fn f) args h c with
  | none=>rw [e] at he;cases he
  | some x=>
   obtain ⟨v,h',c'⟩:=x
   rw [e] at he
   exact ⟨v,h',c',rfl,he⟩
 rw [Bool.and_eq_true] at hr
 refine (calls_of_callE (by kernel_rfl) noGo sm0_ok he hf hb H.start ha).mono ?_
 rintro e w' ⟨u',σ',rfl,q,W⟩
 have hk:∀ m o,h.get m=some o→∃ t cs,h'.get m=some (.ro t cs):=fun m o hn=>ro_names (hc m o hn) hn hr.2
 exact ⟨⟨v,h',c',u',σ',hr.1,rfl,q,W.rel,W.ext,hk,W.liv⟩,H.stop W hk⟩
/-- The first tablet: from the first key on, without tables. -/
def TabAt (w:World)(tb o:Nat):Prop:=∃ (C:Array Value)(t:TypeId)(fr:Nat × Nat),w.heap[tb]? = some (.cells C t fr)∧C[o]? = some (.string ⟨#[]⟩)∧C[o+1]? = some (.slice none 0 0)
theorem TabAt.kept {S:Nat→Prop}{w w':World}{tb o:Nat}(h:TabAt w tb o)(K:Kept S w w')(hS:¬ S tb):TabAt w' tb o:=by
 obtain ⟨C,t,fr,h1,h2⟩:=h
 exact ⟨C,t,fr,(K.block tb (Array.getElem?_eq_some_iff.1 h1).1 hS).trans h1,h2⟩
theorem TabAt.cells {w:World}{tb o:Nat}(h:TabAt w tb o):w.cell? ⟨tb,o,none⟩=some (.string ⟨#[]⟩)∧w.cell? ⟨tb,o+1,none⟩=some (.slice none 0 0):=by
 obtain ⟨C,t,fr,h1,h2,h3⟩:=h
 simp [World.cell?,h1,h2,h3]
/-- A manifest that works: its state is the first one. -/
def ManAt (w:World)(mb d tb o:Nat):Prop:=mb≠tb∧TabAt w tb o∧∃ (C:Array Value)(t:TypeId)(fr:Nat × Nat),w.heap[mb]? = some (.cells C t fr)∧C[0]? = some (.pointer (some ⟨d,0,none⟩))∧C[3]? = some (.slice (some ⟨tb,o,none⟩) 1 1)∧C[4]? = some (.int .i64 1)∧C[5]? = some (.int .i64 2)∧C[1]? = some (.int .i64 0)∧C[2]? = some (.bool false)
theorem ManAt.kept {S:Nat→Prop}{w w':World}{mb d tb o:Nat}(h:ManAt w mb d tb o)(K:Kept S w w')(h1:¬ S mb)(h2:¬ S tb):ManAt w' mb d tb o:=by
 obtain ⟨h0,ht,C,t,fr,g1,g2⟩:=h
 exact ⟨h0,ht.kept K h2,C,t,fr,(K.block mb (Array.getElem?_eq_some_iff.1 g1).1 h1).trans g1,g2⟩
def hM:Heap:=Tr.set deep (Tr.set deep Tr.nil 6 (some (.ro 114 [.ptr 8 0,.int .i64 (.ofNat 0),.bool false,.slice 7 0 1 1 false,.int .i64 (.ofNat 1),.int .i64 (.ofNat 2)]))) 7 (some (.ro 215 [.str [],.nils]))
def sigM (mb tb o d:Nat):Sig:=fun n=>if n<6 then some ⟨n,0,0⟩ else if n=6 then some ⟨mb,0,0⟩ else if n=7 then some ⟨tb,o,0⟩ else if n=8 then some ⟨d,0,0⟩ else none
theorem hM7:hM.get 7=some (.ro 215 [.str [],.nils]):=Tr.get_set_same deep _ 7 _ (by decide)
theorem hM6:hM.get 6=some (.ro 114 [.ptr 8 0,.int .i64 (.ofNat 0),.bool false,.slice 7 0 1 1 false,.int .i64 (.ofNat 1),.int .i64 (.ofNat 2)]):=by
 unfold hM
 rw [Tr.get_set_other deep _ 7 6 _ (by decide)]
 exact Tr.get_set_same deep Tr.nil 6 _ (by decide)
theorem hMo {n:Nat}(h:n≠6)(h':n≠7):hM.get n=none:=by
 unfold hM
 rw [Tr.get_set_other deep _ 7 n _ (Ne.symm h'),Tr.get_set_other deep Tr.nil 6 n _ (Ne.symm h)]
 rfl
theorem hMc:∀ m o,hM.get m=some o→m<9:=fun m o e=>by
 by_cases q:m=6
 ·omega
 ·by_cases q' : m = 7
  ·omega
  ·rw [hMo q q'] at e;cases e
theorem roM {W:World}{mb d tb o:Nat}(h:ManAt W mb d tb o):RoO (sigM mb tb o d) hM 9 W:=by
 obtain ⟨h0,⟨T,tt,tf,t1,t2,t3⟩,C,t,fr,g1,c0,c3,c4,c5,c1,c2⟩:=h
 have s6:sigM mb tb o d 6=some ⟨mb,0,0⟩:=rfl
 have s7:sigM mb tb o d 7=some ⟨tb,o,0⟩:=rfl
 refine ⟨fun g hg=>by simp [sigM,hg],fun n hn=>?_,fun n o' hn=>?_,fun n m l k hn hm hl hk e=>?_⟩
 ·unfold sigM
  rw [if_neg (by omega),if_neg (by omega),if_neg (by omega),if_neg (by omega)]
 ·by_cases e : n = 6
  ·subst e
   rw [hM6] at hn
   cases hn
   refine ⟨mb,0,s6,114,_,rfl,C,fr,[.pointer (some ⟨d,0,none⟩),.int .i64 0,.bool false,.slice (some ⟨tb,o,none⟩) 1 1,.int .i64 1,.int .i64 2],t,g1,rfl,fun i v hi=>?_,rfl⟩
   rw [Nat.zero_add]
   match i,hi with
   | 0,hi=>simp at hi;subst hi;exact c0
   | 1,hi=>simp at hi;subst hi;exact c1
   | 2,hi=>simp at hi;subst hi;exact c2
   | 3,hi=>simp at hi;subst hi;exact c3
   | 4,hi=>simp at hi;subst hi;exact c4
   | 5,hi=>simp at hi;subst hi;exact c5
   | i+6,hi=>simp at hi
  ·by_cases e7 : n = 7
   ·subst e7
    rw [hM7] at hn
    cases hn
    refine ⟨tb,o,s7,215,_,rfl,T,tf,[.string ⟨#[]⟩,.slice none 0 0],tt,t1,rfl,fun i v hi=>?_,rfl⟩
    match i,hi with
    | 0,hi=>simp at hi;subst hi;exact t2
    | 1,hi=>simp at hi;subst hi;exact t3
    | i+2,hi=>simp at hi
   ·rw [hMo e e7] at hn;cases hn
 ·have key:∀ n,(hM.get n).isSome=true→n=6∨n=7:=fun n h=>by
   by_cases e:n=6
   ·exact .inl e
   ·by_cases e7 : n = 7
    ·exact .inr e7
    ·rw [hMo e e7] at h;cases h
  rcases key n hn with rfl | rfl <;> rcases key m hm with rfl | rfl
  ·rfl
  ·rw [s6] at hl;rw [s7] at hk;cases hl;cases hk;exact absurd e h0
  ·rw [s7] at hl;rw [s6] at hk;cases hl;cases hk;exact absurd e.symm h0
  ·rfl
def stV (tb o:Nat):Value:=.agg #[.slice (some ⟨tb,o,none⟩) 1 1,.int .i64 1,.int .i64 2]
/-- The state: a slice of one tablet that is new. -/
noncomputable def ckSt:AV→Heap→Bool
 | .agg [.slice n 0 1 1 false,.int .i64 (.ofNat 1),.int .i64 (.ofNat 2)],h=>Nat.ble 9 n && (match h.get n with
  | some (.cells _ [.str [],.nils])=>true
  | _=>false)
 | _,_=>false
theorem state_ev:isChk 9 hM ckSt (callE Tryz.prog sm0 100 (.fn 61) [.ptr 6 0] hM 9)=true:=by decide +kernel
theorem mstate_any {w:World}{mb d tb o:Nat}(h:ManAt w mb d tb o):Calls Tryz.prog 61 #[.pointer (some ⟨mb,0,none⟩)] w fun e w'=>(∃ tb' o',e = .returned (stV tb' o')∧TabAt w' tb' o'∧w.heap.size≤tb')∧Kept (fun _=>False) w w':=by
 have ha:concs (sigM mb tb o d) (envT w) [.ptr 6 0]=some [.pointer (some ⟨mb,0,none⟩)]:=rfl
 refine (calls_roN state_ev Tryz.func61 (by kernel_rfl) (roM h) hMc ha).mono ?_
 rintro e w' ⟨⟨v,h',c',u,σ',hck,rfl,hu,H,hx,hk',hl⟩,K⟩
 refine ⟨?_,K⟩
 unfold ckSt at hck
 split at hck
 ·rename_i n
  rw [Bool.and_eq_true] at hck
  obtain ⟨hn,hck⟩:=hck
  split at hck
  ·rename_i t hg
   obtain ⟨l,hl',a,fr,vs,g1,_,g3,_,g5,_⟩:=H.obj n _ hg
   have e3:vs=[.string ⟨#[]⟩,.slice none 0 0]:=by
    have:concs σ' (envT w) [.str [],.nils]=some [.string ⟨#[]⟩,.slice none 0 0]:=rfl
    rw [this] at g3
    exact (Option.some.inj g3).symm
   subst e3
   obtain ⟨us,q1,q2,rfl⟩:=conc_agg.1 hu
   obtain ⟨x,r1,p1,p2,rfl⟩:=concs_cons.1 q1
   obtain ⟨l2,k1,rfl⟩:=conc_slice.1 p1
   rw [hl'] at k1
   cases k1
   have e4:r1=[.int .i64 1,.int .i64 2]:=by
    have:concs σ' (envT w) [.int .i64 (.ofNat 1),.int .i64 (.ofNat 2)]=some [.int .i64 1,.int .i64 2]:=rfl
    rw [this] at p2
    exact (Option.some.inj p2).symm
   subst e4
   refine ⟨l.blk,l.off,rfl,⟨a,t,fr,g1,g5 0 _ rfl,g5 1 _ rfl⟩,?_⟩
   rcases Nat.lt_or_ge l.blk w.heap.size with q | q
   ·obtain ⟨m, k, hm, hk, e⟩ := hl l.blk q ⟨n, l, by rw [hg]; rfl, hl', rfl⟩
    obtain ⟨o',ho'⟩:=Option.isSome_iff_exists.1 hm
    obtain ⟨t',cs',e'⟩:=hk' m o' ho'
    have en:=H.inj n m l k (by rw [hg];rfl) (by rw [e'];rfl) hl' (hx _ _ hk) e.symm
    subst en
    rw [hg] at e'
    cases e'
   ·exact q
  ·cases hck
 ·cases hck
/-- The one tablet, as a name that is only read. -/
def hT:Heap:=Tr.set deep Tr.nil 6 (some (.ro 215 [.str [],.nils]))
def sigT (tb o:Nat):Sig:=fun n=>if n<6 then some ⟨n,0,0⟩ else if n=6 then some ⟨tb,o,0⟩ else none
theorem hT6:hT.get 6=some (.ro 215 [.str [],.nils]):=Tr.get_set_same deep Tr.nil 6 _ (by decide)
theorem hTo {n:Nat}(h:n≠6):hT.get n=none:=by
 unfold hT
 rw [Tr.get_set_other deep Tr.nil 6 n _ (Ne.symm h)]
 rfl
theorem hTc:∀ m o,hT.get m=some o→m<7:=fun m o e=>by
 by_cases q:m=6
 ·omega
 ·rw [hTo q] at e;cases e
theorem roT {W:World}{tb o:Nat}(h:TabAt W tb o):RoO (sigT tb o) hT 7 W:=by
 obtain ⟨T,tt,tf,t1,t2,t3⟩:=h
 have s6:sigT tb o 6=some ⟨tb,o,0⟩:=rfl
 refine ⟨fun g hg=>by simp [sigT,hg],fun n hn=>?_,fun n o' hn=>?_,fun n m l k hn hm hl hk e=>?_⟩
 ·unfold sigT
  rw [if_neg (by omega),if_neg (by omega)]
 ·by_cases e7 : n = 6
  ·subst e7
   rw [hT6] at hn
   cases hn
   refine ⟨tb,o,s6,215,_,rfl,T,tf,[.string ⟨#[]⟩,.slice none 0 0],tt,t1,rfl,fun i v hi=>?_,rfl⟩
   match i,hi with
   | 0,hi=>simp at hi;subst hi;exact t2
   | 1,hi=>simp at hi;subst hi;exact t3
   | i+2,hi=>simp at hi
  ·rw [hTo e7] at hn;cases hn
 ·by_cases en : n = 6
  ·by_cases em : m = 6
   ·rw [en,em]
   ·rw [hTo em] at hm;cases hm
  ·rw [hTo en] at hn;cases hn
def stA:AV:=.agg [.slice 6 0 1 1 false,.int .i64 (.ofNat 1),.int .i64 (.ofNat 2)]
noncomputable def ckIs (v:AV):AV→Heap→Bool:=fun u _=>avEq u v
theorem check_ev:isChk 7 hT (ckIs (.bool true)) (callE Tryz.prog sm0 100 (.fn 119) [stA] hT 7)=true:=by decide +kernel
theorem check_st {w:World}{tb o:Nat}(h:TabAt w tb o):Calls Tryz.prog 119 #[stV tb o] w fun e w'=>e = .returned (.bool true)∧Kept (fun _=>False) w w':=by
 have ha:concs (sigT tb o) (envT w) [stA]=some [stV tb o]:=rfl
 refine (calls_roN check_ev Tryz.func119 (by kernel_rfl) (roT h) hTc ha).mono ?_
 rintro e w' ⟨⟨v,h',c',u,σ',hck,rfl,hu,_⟩,K⟩
 have:=avEq_eq hck
 subst this
 have e2:conc σ' (envT w) (.bool true)=some (.bool true):=rfl
 rw [e2] at hu
 cases hu
 exact ⟨rfl,K⟩
theorem stretch_ev:isChk 7 hT (ckIs (.tup [.str [],.str [],.bool true])) (callE Tryz.prog sm0 100 (.fn 134) [stA,.int .i64 (.ofNat 0)] hT 7)=true:=by decide +kernel
theorem stretch_st {w:World}{tb o:Nat}(h:TabAt w tb o):Calls Tryz.prog 134 #[stV tb o,.int .i64 0] w fun e w'=>e = .returned (.tuple #[.string ⟨#[]⟩,.string ⟨#[]⟩,.bool true])∧Kept (fun _=>False) w w':=by
 have ha:concs (sigT tb o) (envT w) [stA,.int .i64 (.ofNat 0)]=some [stV tb o,.int .i64 0]:=rfl
 refine (calls_roN stretch_ev Tryz.func134 (by kernel_rfl) (roT h) hTc ha).mono ?_
 rintro e w' ⟨⟨v,h',c',u,σ',hck,rfl,hu,_⟩,K⟩
 have:=avEq_eq hck
 subst this
 have e2:conc σ' (envT w) (.tup [.str [],.str [],.bool true])=some (.tuple #[.string ⟨#[]⟩,.string ⟨#[]⟩,.bool true]):=rfl
 rw [e2] at hu
 cases hu
 exact ⟨rfl,K⟩
end
/- edits.Find at the state that a new manifest has. -/
section
open Go.RowKit
set_option maxRecDepth 100000

theorem empty_less {key:ByteArray}(hk:key≠⟨#[]⟩):Op.bytesLess [] key.toList=true:=by
 have e1:(⟨#[]⟩:ByteArray).toList=[]:=by rw [ByteArray.toList_eq]
 have h:sLt ⟨#[]⟩ key=true:=by
  rw [sLt_iff]
  have e0:(⟨#[]⟩:ByteArray).toList=[]:=by rw [ByteArray.toList_eq]
  rw [e0]
  cases h:key.toList with
  | nil=>exact absurd (bytes_eq (h.trans e0.symm)) hk
  | cons a l=>exact List.nil_lt_cons _ _
 unfold sLt at h
 rwa [e1] at h
set_option maxHeartbeats 4000000 in
theorem find1_any {key:ByteArray}(hk:key≠⟨#[]⟩)(w:World):Calls Tryz.prog 161 #[.agg #[.string ⟨#[]⟩,.slice none 0 0],.string key] w fun e w'=>e = .returned (.int .i64 (-1))∧Kept (fun _=>False) w w':=by
 have h:=empty_less hk
 go_enter Tryz.func161,Tryz.ntmps161
 go_wp2
 go_ret
 exact ⟨rfl,(Kept.refl _ _).alloc _⟩
set_option maxHeartbeats 4000000 in
theorem find160_any {key:ByteArray}{w:World}{tb o:Nat}(h:TabAt w tb o)(hk:key≠⟨#[]⟩):Calls Tryz.prog 160 #[.slice (some ⟨tb,o,none⟩) 1 1,.string key,.func (.func 161) #[] #[]] w fun e w'=>e = .returned (.tuple #[.int .i64 1,.bool false])∧Kept (fun _=>False) w w':=by
 obtain ⟨y0,y1⟩:=h.cells
 have F:=Lib.hid (fun (W:World)=>find1_any hk W)
 clear h hk
 go_enter Tryz.func160,Tryz.ntmps160
 go_wp2_with fail
 refine wp_loop_rounds 2 ?_
 rw [rounds_succ]
 go_wp2_with (go_at_call 161;refine (F.out _).mono ?_;rintro e w1 ⟨rfl,k1⟩)
 rw [rounds_succ]
 go_wp2_with fail
 go_ret2
 exact ⟨rfl,k1⟩
set_option maxHeartbeats 4000000 in
theorem find_any {key:ByteArray}{w:World}{tb o:Nat}(h:TabAt w tb o)(hk:key≠⟨#[]⟩):Calls Tryz.prog 95 #[stV tb o,.string key] w fun e w'=>e = .returned (.int .i64 0)∧Kept (fun _=>False) w w':=by
 obtain ⟨q,hq⟩:∃ q,w.heap.size=q:=⟨_,rfl⟩
 obtain ⟨W0,hW0⟩:∃ W,w.alloc (Obj.cells #[.slice (some ⟨tb,o,none⟩) 1 1,.int .i64 1,.int .i64 2] 121)=W:=⟨_,rfl⟩
 have k0:Kept (fun _=>False) w W0:=by rw [← hW0];exact (Kept.refl _ _).alloc _
 have y0:W0.cell? ⟨q,0,none⟩=some (.slice (some ⟨tb,o,none⟩) 1 1):=by rw [← hW0,← hq];simp [go_sem]
 have y1:W0.cell? ⟨q,1,none⟩=some (.int .i64 1):=by rw [← hW0,← hq];simp [go_sem]
 have y2:W0.cell? ⟨q,2,none⟩=some (.int .i64 2):=by rw [← hW0,← hq];simp [go_sem]
 have TT:=Lib.hid (h.kept k0 (fun f=>f))
 have CK:=Lib.hid (check_st TT.out)
 have FK:=Lib.hid (fun (W:World) (K:Kept (fun _=>False) W0 W)=>find160_any (key:=key) (TT.out.kept K (fun f=>f)) hk)
 have K0:=Lib.hid k0
 unfold stV at CK ⊢
 clear h hk k0
 go_enter Tryz.func95,Tryz.ntmps95
 go_wp2_with (first
  | (go_at_call 119;refine CK.out.mono ?_;rintro e w1 ⟨rfl,k1⟩;(have z0:=k1.cell y0 (fun f=>f));(have K1:=Lib.hid k1))
  | (go_at_call 160;refine (FK.out _ K1.out).mono ?_;rintro e w2 ⟨rfl,k2⟩))
 go_ret
 exact ⟨rfl,(K0.out.trans K1.out (fun _ _ f=>f) (fun _ _ f=>f)).trans k2 (fun _ _ f=>f) (fun _ _ f=>f)⟩
end
/- The store: where it lies; ask, tablet. -/
section
open Go.RowKit
set_option maxRecDepth 100000

/-- The blocks of a store. -/
structure Sto where
 s:Nat
 d:Nat
 mb:Nat
 j:Nat
 gm:Nat
 m:Nat
 tb:Nat
 o:Nat
 fm:Nat
 cm:Nat
/-- The blocks of a store that stay as they are. -/
def Sto.still (S:Sto)(b:Nat):Prop:=b=S.d∨b=S.mb∨b=S.j∨b=S.gm∨b=S.tb
/-- Those that may turn. -/
def Sto.turn (S:Sto)(own:Nat→Prop)(b:Nat):Prop:=own b∨b=S.s∨b=S.fm
/-- A store that works, with one tablet and no table; its memory's pages; its last Seq. -/
structure StAt (S:Sto) (own:Nat→Prop) (w:World) (F:List Fl) (n t:Nat) (ps:List Pg) (q:Int):Prop where
 c0:w.cell? ⟨S.s,0,none⟩=some (.pointer (some ⟨S.d,0,none⟩))
 c1:w.cell? ⟨S.s,1,none⟩=some (.pointer (some ⟨S.mb,0,none⟩))
 c2:w.cell? ⟨S.s,2,none⟩=some (.pointer (some ⟨S.j,0,none⟩))
 c3:w.cell? ⟨S.s,3,none⟩=some (.slice (some ⟨S.gm,0,none⟩) 1 S.cm)
 c5:w.cell? ⟨S.s,5,none⟩=some (.int .i64 q)
 f5:w.frozen? ⟨S.s,5,none⟩=false
 g0:w.cell? ⟨S.gm,0,none⟩=some (.pointer (some ⟨S.m,0,none⟩))
 man:ManAt w S.mb S.d S.tb S.o
 jrn:JrnOk w S.j S.d 1
 dsk:DiskOk w S.d S.fm 1048576 F
 fls:FlsOk F n t
 mem:MemB own w S.m ps
 srt:SortedC (allP ps)
 st:∀ b,S.still b→¬ S.turn own b
 os:¬ own S.s
 of:¬ own S.fm
 ob:∀ b,own b→b<w.heap.size
theorem StAt.kept {S:Sto}{own T:Nat→Prop}{w w':World}{F:List Fl}{n t:Nat}{ps:List Pg}{q:Int}(h:StAt S own w F n t ps q)(K:Kept T w w')(h1:∀ b,S.still b→¬ T b)(h2:∀ b,S.turn own b→¬ T b):StAt S own w' F n t ps q:=by
 have hs:=h2 S.s (.inr (.inl rfl))
 have hf:=h2 S.fm (.inr (.inr rfl))
 have hd:=h1 S.d (.inl rfl)
 have hm:=h1 S.mb (.inr (.inl rfl))
 have hj:=h1 S.j (.inr (.inr (.inl rfl)))
 have hg:=h1 S.gm (.inr (.inr (.inr (.inl rfl))))
 have ht:=h1 S.tb (.inr (.inr (.inr (.inr rfl))))
 exact ⟨K.cell h.c0 hs,K.cell h.c1 hs,K.cell h.c2 hs,K.cell h.c3 hs,K.cell h.c5 hs,K.frozen h.f5 (World.block_lt_of_cell? _ _ h.c5) hs,K.cell h.g0 hg,h.man.kept K hm ht,h.jrn.kept K hj,h.dsk.kept K hd hf,h.fls,h.mem.kept K (fun b hb=>h2 b (.inl hb)),h.srt,h.st,h.os,h.of,fun b hb=>Nat.lt_of_lt_of_le (h.ob b hb) K.size⟩
theorem StAt.keptF {S:Sto}{own:Nat→Prop}{w w':World}{F:List Fl}{n t:Nat}{ps:List Pg}{q:Int}(h:StAt S own w F n t ps q)(K:Kept (fun _=>False) w w'):StAt S own w' F n t ps q:=h.kept K (fun _ _ f=>f) (fun _ _ f=>f)
section
variable {S:Sto}{own:Nat→Prop}{w:World}{F:List Fl}{n t:Nat}{ps:List Pg}{q:Int}
theorem snone_any (h:StAt S own w F n t ps q):Calls Tryz.prog 128 #[.pointer (some ⟨S.s,0,none⟩)] w fun e w'=>e = .returned (.bool false)∧w=w':=by
 have c0:=h.c0
 obtain ⟨s,d,mb,j,gm,m,tb,o,fm,cm⟩:=S
 simp only at c0 ⊢
 clear h
 go_enter Tryz.func128,Tryz.ntmps128
 go_wp2
 go_ret
 exact ⟨rfl,rfl⟩
theorem sask_any (h:StAt S own w F n t ps q):Calls Tryz.prog 69 #[.pointer (some ⟨S.s,0,none⟩)] w fun e w'=>e = .returned (.int .i64 0)∧Kept (fun _=>False) w w':=by
 have c2:=h.c2
 have SN:=Lib.hid (snone_any h)
 have JN:=Lib.hid (jnumber_any h.jrn h.dsk)
 obtain ⟨s,d,mb,j,gm,m,tb,o,fm,cm⟩:=S
 simp only at c2 SN JN ⊢
 clear h
 go_enter Tryz.func69,Tryz.ntmps69
 go_wp2_with (first
  | (go_at_call 128;refine SN.out.mono ?_;rintro e w1 ⟨rfl,rfl⟩)
  | (go_at_call 129;refine JN.out.mono ?_;rintro e w2 ⟨rfl,k2⟩))
 go_ret
 exact ⟨rfl,k2⟩
set_option maxHeartbeats 4000000 in
theorem tablet_any (h:StAt S own w F n t ps q):Calls Tryz.prog 71 #[.pointer (some ⟨S.s,0,none⟩),.int .i64 0] w fun e w'=>e = .returned (.agg #[.string ⟨#[]⟩,.string ⟨#[]⟩,.pointer (some ⟨S.m,0,none⟩),.slice none 0 0])∧Kept (fun _=>False) w w':=by
 have H:=Lib.hid h
 obtain ⟨rb,hrb⟩:∃ q,w.heap.size=q:=⟨_,rfl⟩
 obtain ⟨W0,hW0⟩:∃ W,w.alloc (Obj.cells #[.string ⟨#[]⟩,.string ⟨#[]⟩,.pointer none,.slice none 0 0] 143)=W:=⟨_,rfl⟩
 have k0:Kept (fun _=>False) w W0:=by rw [← hW0];exact (Kept.refl _ _).alloc _
 have y0:W0.cell? ⟨rb,0,none⟩=some (.string ⟨#[]⟩):=by rw [← hW0,← hrb];simp [go_sem]
 have y1:W0.cell? ⟨rb,1,none⟩=some (.string ⟨#[]⟩):=by rw [← hW0,← hrb];simp [go_sem]
 have y2:W0.cell? ⟨rb,2,none⟩=some (.pointer none):=by rw [← hW0,← hrb];simp [go_sem]
 have y3:W0.cell? ⟨rb,3,none⟩=some (.slice none 0 0):=by rw [← hW0,← hrb];simp [go_sem]
 have yf:∀ j,W0.frozen? ⟨rb,j,none⟩=false:=fun j=>by rw [← hW0,← hrb];simp [go_sem]
 have yl:=World.block_lt_of_cell? _ _ y0
 have H0:=Lib.hid (h.keptF k0)
 have c1:=H0.out.c1
 have c3:=H0.out.c3
 have g0:=H0.out.g0
 have MS:=Lib.hid (mstate_any H0.out.man)
 have K0:=Lib.hid k0
 obtain ⟨s,d,mb,j,gm,m,tb,o,fm,cm⟩:=S
 simp only at c1 c3 g0 MS ⊢
 clear h k0
 go_enter Tryz.func71,Tryz.ntmps71
 go_wp2_with (first
  | (go_at_call 61;refine MS.out.mono ?_;rintro e w1 ⟨⟨tb',o',rfl,ht,_⟩,k1⟩;unfold stV;(have K1:=Lib.hid k1);(have TT:=Lib.hid ht);(have x1:=k1.cell c1 (fun f=>f));(have x3:=k1.cell c3 (fun f=>f));(have xg:=k1.cell g0 (fun f=>f));(have z0:=k1.cell y0 (fun f=>f));(have z1:=k1.cell y1 (fun f=>f));(have z2:=k1.cell y2 (fun f=>f));(have z3:=k1.cell y3 (fun f=>f));(have zf:=fun j=>k1.frozen (yf j) yl (fun f=>f));obtain ⟨t0,t1⟩:=ht.cells;clear k1 ht y0 y1 y2 y3 yf c1 c3 g0))
 have st:=stretch_st (TT.out.kept ((Kept.refl (fun _=>False) w1).alloc (Obj.cells #[Value.slice (some ⟨tb',o',none⟩) 1 1,.int .i64 1,.int .i64 2] 121)) (fun f=>f))
 unfold stV at st
 refine st.mono ?_
 clear st
 rintro e w2 ⟨rfl,k2⟩
 have k12:=((Kept.refl (fun _=>False) w1).alloc _).trans k2 (T:=fun _=>False) (fun _ _ f=>f) (fun _ _ f=>f)
 have K2:=Lib.hid (K1.out.trans k12 (T:=fun _=>False) (fun _ _ f=>f) (fun _ _ f=>f))
 have v0:=k2.cell (show (w1.alloc (Obj.cells #[Value.slice (some ⟨tb',o',none⟩) 1 1,.int .i64 1,.int .i64 2] 121)).cell? ⟨w1.heap.size,0,none⟩=some (.slice (some ⟨tb',o',none⟩) 1 1) by simp [go_sem]) (fun f=>f)
 have x1':=k12.cell x1 (fun f=>f)
 have x3':=k12.cell x3 (fun f=>f)
 have xg':=k12.cell xg (fun f=>f)
 have z0':=k12.cell z0 (fun f=>f)
 have z1':=k12.cell z1 (fun f=>f)
 have z2':=k12.cell z2 (fun f=>f)
 have z3':=k12.cell z3 (fun f=>f)
 have rl0:rb<w1.heap.size:=World.block_lt_of_cell? _ _ z0
 have zf':=fun j=>k12.frozen (zf j) rl0 (fun f=>f)
 have t0':=k12.cell t0 (fun f=>f)
 have t1':=k12.cell t1 (fun f=>f)
 have rl:=World.block_lt_of_cell? _ _ z0'
 have tl:=World.block_lt_of_cell? _ _ t0'
 have sl:=World.block_lt_of_cell? _ _ v0
 clear k2 k12 x1 x3 xg z0 z1 z2 z3 zf t0 t1 rl0
 go_wp2_with fail
 refine wp_loop_rounds 1 ?_
 rw [rounds_succ]
 go_wp2_with fail
 have hp:rb<w.heap.size→False:=fun h=>by omega
 have KK:=K0.out.trans K2.out (T:=fun _=>False) (fun _ _ f=>f) (fun _ _ f=>f)
 refine bodyPost_ret_by (v:=_) ?_ rfl ⟨rfl,(Kept.setAt hp (Kept.setAt hp (Kept.setAt hp (Kept.setAt hp KK)))).alloc _⟩
 rw [results_cell1 rfl]
 go_simp
end
end
/- tablets.Get, store.Get. -/
section
open Go.RowKit
set_option maxRecDepth 100000

def tabV (m:Nat):Value:=.agg #[.string ⟨#[]⟩,.string ⟨#[]⟩,.pointer (some ⟨m,0,none⟩),.slice none 0 0]
theorem less_empty (l:List UInt8):Op.bytesLess l []=false:=by
 cases l <;> rfl
set_option maxHeartbeats 4000000 in
theorem has_any (m:Nat)(key:ByteArray)(w:World):Calls Tryz.prog 157 #[tabV m,.string key] w fun e w'=>e = .returned (.bool true)∧Kept (fun _=>False) w w':=by
 have h:=less_empty key.toList
 unfold tabV
 go_enter Tryz.func157,Tryz.ntmps157
 go_wp2
 go_ret
 exact ⟨rfl,(Kept.refl _ _).alloc _⟩
set_option maxHeartbeats 4000000 in
theorem tget_any {own:Nat→Prop}{w:World}{m:Nat}{ps:List Pg}{key:ByteArray}(M:MemB own w m ps)(hs:SortedC (allP ps))(hl:(allP ps).length≤10000)(hk:key.size≤100000) :
  Calls Tryz.prog 94 #[tabV m,.string key] w fun e w'=>e = .returned (getV (allP ps) key)∧Kept (fun _=>False) w w':=by
 obtain ⟨tb,htb⟩:∃ q,w.heap.size=q:=⟨_,rfl⟩
 obtain ⟨W0,hW0⟩:∃ W,(w.alloc (Obj.cells #[.string ⟨#[]⟩,.string ⟨#[]⟩,.pointer (some ⟨m,0,none⟩),.slice none 0 0] 143)).alloc (Obj.cells #[.string ⟨#[]⟩,.int .i64 0,.string ⟨#[]⟩] 132)=W:=⟨_,rfl⟩
 have k0:Kept (fun _=>False) w W0:=by rw [← hW0];exact ((Kept.refl _ _).alloc _).alloc _
 have a0:W0.cell? ⟨tb,0,none⟩=some (.string ⟨#[]⟩):=by rw [← hW0,← htb];simp [go_sem]
 have a1:W0.cell? ⟨tb,1,none⟩=some (.string ⟨#[]⟩):=by rw [← hW0,← htb];simp [go_sem]
 have a2:W0.cell? ⟨tb,2,none⟩=some (.pointer (some ⟨m,0,none⟩)):=by rw [← hW0,← htb];simp [go_sem]
 have a3:W0.cell? ⟨tb,3,none⟩=some (.slice none 0 0):=by rw [← hW0,← htb];simp [go_sem]
 have r0:W0.cell? ⟨tb+1,0,none⟩=some (.string ⟨#[]⟩):=by rw [← hW0,← htb];simp [go_sem]
 have r1:W0.cell? ⟨tb+1,1,none⟩=some (.int .i64 0):=by rw [← hW0,← htb];simp [go_sem]
 have r2:W0.cell? ⟨tb+1,2,none⟩=some (.string ⟨#[]⟩):=by rw [← hW0,← htb];simp [go_sem]
 have rf:∀ j,W0.frozen? ⟨tb+1,j,none⟩=false:=fun j=>by rw [← hW0,← htb];simp [go_sem]
 have rl0:tb+1<W0.heap.size:=World.block_lt_of_cell? _ _ r0
 have K0:=Lib.hid k0
 have HA:=Lib.hid (fun (W:World)=>has_any m key W)
 have MG:=Lib.hid (fun (W:World) (K:Kept (fun _=>False) W0 W)=>mget_any (key:=key) ((M.kept k0 (fun _ _ f=>f)).kept K (fun _ _ f=>f)) hs hl hk)
 unfold tabV at HA ⊢
 unfold getV at MG ⊢
 obtain ⟨⟨ck,cs,cv⟩,hc⟩:∃ c,(getL (allP ps) key).getD zeroC=c:=⟨_,rfl⟩
 obtain ⟨b,hb⟩:∃ b,(getL (allP ps) key).isSome=b:=⟨_,rfl⟩
 rw [hc,hb] at MG ⊢
 unfold Cel.val at MG ⊢
 simp only at MG ⊢
 clear M hs hl hk k0 hc hb
 go_enter Tryz.func94,Tryz.ntmps94
 go_wp2_with (first
  | (go_at_call 157;refine (HA.out _).mono ?_;rintro e w1 ⟨rfl,k1⟩;(have K1:=Lib.hid k1);(have b0:=k1.cell a0 (fun f=>f));(have b1:=k1.cell a1 (fun f=>f));(have b2:=k1.cell a2 (fun f=>f));(have b3:=k1.cell a3 (fun f=>f));(have s0:=k1.cell r0 (fun f=>f));(have s1:=k1.cell r1 (fun f=>f));(have s2:=k1.cell r2 (fun f=>f));(have sf:=fun j=>k1.frozen (rf j) rl0 (fun f=>f));(have rl1:tb+1<w1.heap.size:=World.block_lt_of_cell? _ _ s0);clear k1 a0 a1 a2 a3 r0 r1 r2 rf rl0)
  | (go_at_call 158;refine (MG.out _ K1.out).mono ?_;rintro e w2 ⟨rfl,k2⟩;(have K2:=Lib.hid (K1.out.trans k2 (fun _ _ f=>f) (fun _ _ f=>f)));(have d3:=k2.cell b3 (fun f=>f));(have tl2:tb<w2.heap.size:=World.block_lt_of_cell? _ _ d3);(have u0:=k2.cell s0 (fun f=>f));(have u1:=k2.cell s1 (fun f=>f));(have u2:=k2.cell s2 (fun f=>f));(have uf:=fun j=>k2.frozen (sf j) rl1 (fun f=>f));(have rl2:tb+1<w2.heap.size:=World.block_lt_of_cell? _ _ u0);clear k2 b0 b1 b2 b3 s0 s1 s2 sf rl1))
 refine wp_loop_rounds 1 ?_
 rw [rounds_succ]
 go_wp2_with fail
 have hp:tb+1<w.heap.size→False:=fun h=>by omega
 have KK:=K0.out.trans K2.out (T:=fun _=>False) (fun _ _ f=>f) (fun _ _ f=>f)
 refine bodyPost_ret_by (v:=_) ?_ rfl ⟨rfl,(Kept.setAt hp (Kept.setAt hp (Kept.setAt hp KK))).alloc _⟩
 rw [results_cell_tmp rfl]
 go_simp
set_option maxHeartbeats 4000000 in
theorem sget_any {S:Sto}{own:Nat→Prop}{w:World}{F:List Fl}{n t:Nat}{ps:List Pg}{q:Int}{key:ByteArray}(h:StAt S own w F n t ps q)(hl:(allP ps).length≤10000)(hk:key.size≤100000)(hne:key≠⟨#[]⟩) :
  Calls Tryz.prog 51 #[.pointer (some ⟨S.s,0,none⟩),.string key] w fun e w'=>e = .returned (getV (allP ps) key)∧Kept (fun _=>False) w w':=by
 obtain ⟨rb,hrb⟩:∃ q,w.heap.size=q:=⟨_,rfl⟩
 obtain ⟨W0,hW0⟩:∃ W,w.alloc (Obj.cells #[.string ⟨#[]⟩,.int .i64 0,.string ⟨#[]⟩] 132)=W:=⟨_,rfl⟩
 have k0:Kept (fun _=>False) w W0:=by rw [← hW0];exact (Kept.refl _ _).alloc _
 have r0:W0.cell? ⟨rb,0,none⟩=some (.string ⟨#[]⟩):=by rw [← hW0,← hrb];simp [go_sem]
 have r1:W0.cell? ⟨rb,1,none⟩=some (.int .i64 0):=by rw [← hW0,← hrb];simp [go_sem]
 have r2:W0.cell? ⟨rb,2,none⟩=some (.string ⟨#[]⟩):=by rw [← hW0,← hrb];simp [go_sem]
 have rf:∀ j,W0.frozen? ⟨rb,j,none⟩=false:=fun j=>by rw [← hW0,← hrb];simp [go_sem]
 have rl0:rb<W0.heap.size:=World.block_lt_of_cell? _ _ r0
 have H0:=Lib.hid (h.keptF k0)
 have AS:=Lib.hid (sask_any H0.out)
 have K0:=Lib.hid k0
 have HG:=Lib.hid (fun (W:World) (K:Kept (fun _=>False) W0 W)=>H0.out.keptF K)
 have FI:=Lib.hid (fun (W:World) (tb' o':Nat) (T:TabAt W tb' o')=>find_any (key:=key) T hne)
 have c1:=h.c1
 have c1:=k0.cell c1 (fun f=>f)
 have TG:=Lib.hid (fun (W:World) (K:Kept (fun _=>False) W0 W)=>tget_any (key:=key) ((H0.out.keptF K).mem) h.srt hl hk)
 have TB:=Lib.hid (fun (W:World) (K:Kept (fun _=>False) W0 W)=>tablet_any (H0.out.keptF K))
 have MS:=Lib.hid (fun (W:World) (K:Kept (fun _=>False) W0 W)=>mstate_any (H0.out.keptF K).man)
 unfold tabV at TG
 unfold getV at TG ⊢
 obtain ⟨⟨ck,cs,cv⟩,hc⟩:∃ c,(getL (allP ps) key).getD zeroC=c:=⟨_,rfl⟩
 obtain ⟨b,hb⟩:∃ b,(getL (allP ps) key).isSome=b:=⟨_,rfl⟩
 rw [hc,hb] at TG ⊢
 unfold Cel.val at TG ⊢
 obtain ⟨s,d,mb,j,gm,m,tb,o,fm,cm⟩:=S
 simp only at TG c1 TB MS AS ⊢
 clear h hl hk k0 hc hb hne
 go_enter Tryz.func51,Tryz.ntmps51
 go_wp2_with (first
  | (go_at_call 69;refine AS.out.mono ?_;rintro e w1 ⟨rfl,k1⟩;(have K1:=Lib.hid k1);(have d1:=k1.cell c1 (fun f=>f));(have s0:=k1.cell r0 (fun f=>f));(have s1:=k1.cell r1 (fun f=>f));(have s2:=k1.cell r2 (fun f=>f));(have sf:=fun j=>k1.frozen (rf j) rl0 (fun f=>f));(have rl1:rb<w1.heap.size:=World.block_lt_of_cell? _ _ s0);clear k1 c1 r0 r1 r2 rf rl0)
  | (go_at_call 61;refine (MS.out _ K1.out).mono ?_;rintro e w2 ⟨⟨tb',o',rfl,ht,_⟩,k2⟩;(have K2:=Lib.hid (K1.out.trans k2 (fun _ _ f=>f) (fun _ _ f=>f)));(have TT:=Lib.hid ht);(have u0:=k2.cell s0 (fun f=>f));(have u1:=k2.cell s1 (fun f=>f));(have u2:=k2.cell s2 (fun f=>f));(have uf:=fun j=>k2.frozen (sf j) rl1 (fun f=>f));(have rl2:rb<w2.heap.size:=World.block_lt_of_cell? _ _ u0);clear k2 d1 s0 s1 s2 sf rl1 ht)
  | (go_at_call 95;refine (FI.out _ _ _ TT.out).mono ?_;rintro e w3 ⟨rfl,k3⟩;(have K3:=Lib.hid (K2.out.trans k3 (fun _ _ f=>f) (fun _ _ f=>f)));(have v0:=k3.cell u0 (fun f=>f));(have v1:=k3.cell u1 (fun f=>f));(have v2:=k3.cell u2 (fun f=>f));(have vf:=fun j=>k3.frozen (uf j) rl2 (fun f=>f));(have rl3:rb<w3.heap.size:=World.block_lt_of_cell? _ _ v0);clear k3 u0 u1 u2 uf rl2)
  | (go_at_call 71;refine (TB.out _ K3.out).mono ?_;rintro e w4 ⟨rfl,k4⟩;(have K4:=Lib.hid (K3.out.trans k4 (fun _ _ f=>f) (fun _ _ f=>f)));(have x0:=k4.cell v0 (fun f=>f));(have x1:=k4.cell v1 (fun f=>f));(have x2:=k4.cell v2 (fun f=>f));(have xf:=fun j=>k4.frozen (vf j) rl3 (fun f=>f));(have rl4:rb<w4.heap.size:=World.block_lt_of_cell? _ _ x0);clear k4 v0 v1 v2 vf rl3)
  | (go_at_call 94;refine (TG.out _ K4.out).mono ?_;rintro e w5 ⟨rfl,k5⟩;(have K5:=Lib.hid (K4.out.trans k5 (fun _ _ f=>f) (fun _ _ f=>f)));(have z0:=k5.cell x0 (fun f=>f));(have z1:=k5.cell x1 (fun f=>f));(have z2:=k5.cell x2 (fun f=>f));(have zf:=fun j=>k5.frozen (xf j) rl4 (fun f=>f));(have rl5:rb<w5.heap.size:=World.block_lt_of_cell? _ _ z0);clear k5 x0 x1 x2 xf rl4))
 have hp:rb<w.heap.size→False:=fun h=>by omega
 have KK:=K0.out.trans K5.out (T:=fun _=>False) (fun _ _ f=>f) (fun _ _ f=>f)
 refine bodyPost_ret_by (v:=_) ?_ rfl ⟨rfl,(Kept.setAt hp (Kept.setAt hp (Kept.setAt hp KK)))⟩
 rw [results_cell_tmp rfl]
 go_simp
end
/- store.hold. -/
section
open Go.RowKit
set_option maxRecDepth 100000

theorem StAt.lts {S:Sto}{own:Nat→Prop}{w:World}{F:List Fl}{n t:Nat}{ps:List Pg}{q:Int}(h:StAt S own w F n t ps q):(∀ b,S.still b→b<w.heap.size)∧S.s<w.heap.size∧S.fm<w.heap.size:=by
 obtain ⟨_,⟨_,_,_,t1,_⟩,_,_,_,m1,_⟩:=h.man
 refine ⟨fun b hb=>?_,World.block_lt_of_cell? _ _ h.c0,h.dsk.mp.lt⟩
 rcases hb with rfl | rfl | rfl | rfl | rfl
 ·exact World.block_lt_of_cell? _ _ h.dsk.c0
 ·exact (Array.getElem?_eq_some_iff.1 m1).1
 ·exact World.block_lt_of_cell? _ _ h.jrn.c0
 ·exact World.block_lt_of_cell? _ _ h.g0
 ·exact (Array.getElem?_eq_some_iff.1 t1).1
theorem mem_ob {own:Nat→Prop}{w:World}{m:Nat}{ps:List Pg}(M:MemB own w m ps):∀ b,own b→b<w.heap.size:=by
 rcases M with ⟨_,M⟩ | ⟨_,_,_,M⟩
 ·exact M.ob
 ·exact M.ob
/-- The store behind a change of its memory. -/
theorem StAt.put {S:Sto}{own:Nat→Prop}{w w':World}{F:List Fl}{n t:Nat}{ps:List Pg}{q:Int}{c:Cel}(h:StAt S own w F n t ps q)(P:PutM own w w' S.m c ps) :
  ∃ own' ps',StAt S own' w' F n t ps' q∧Ins (allP ps) c (allP ps')∧(∀ b,own b→own' b)∧(∀ b,own' b→own b∨w.heap.size≤b)∧Kept own w w':=by
 obtain ⟨own',ps',M,hi,h1,h2,K⟩:=P
 obtain ⟨l1,l2,l3⟩:=h.lts
 have hS:∀ b,S.still b→¬ own b:=fun b hb e=>h.st b hb (.inl e)
 have hd:=hS S.d (.inl rfl)
 have hm:=hS S.mb (.inr (.inl rfl))
 have hj:=hS S.j (.inr (.inr (.inl rfl)))
 have hg:=hS S.gm (.inr (.inr (.inr (.inl rfl))))
 have ht:=hS S.tb (.inr (.inr (.inr (.inr rfl))))
 refine ⟨own',ps',⟨K.cell h.c0 h.os,K.cell h.c1 h.os,K.cell h.c2 h.os,K.cell h.c3 h.os,K.cell h.c5 h.os,K.frozen h.f5 l2 h.os,K.cell h.g0 hg,h.man.kept K hm ht,h.jrn.kept K hj,h.dsk.kept K hd h.of,h.fls,M,hi.sorted h.srt,fun b hb e=>?_,fun e=>?_,fun e=>?_,mem_ob M⟩,hi,h1,h2,K⟩
 ·rcases e with e | e
  ·rcases h2 b e with e | e
   ·exact hS b hb e
   ·have:=l1 b hb;omega
  ·exact h.st b hb (.inr e)
 ·rcases h2 _ e with e | e
  ·exact h.os e
  ·omega
 ·rcases h2 _ e with e | e
  ·exact h.of e
  ·omega
/-- The store behind a new last Seq. -/
theorem StAt.seq {S:Sto}{own:Nat→Prop}{w:World}{F:List Fl}{n t:Nat}{ps:List Pg}{q:Int}(h:StAt S own w F n t ps q)(q':Int):StAt S own (w.setCell ⟨S.s,5,none⟩ (.int .i64 q')) F n t ps q':=by
 have K:Kept (fun b=>b=S.s) w (w.setCell ⟨S.s,5,none⟩ (.int .i64 q')):=(Kept.refl _ _).setAt (fun _=>rfl)
 have hS:∀ b,S.still b→¬ b=S.s:=fun b hb e=>h.st b hb (.inr (.inl e))
 have hd:=hS S.d (.inl rfl)
 have hm:=hS S.mb (.inr (.inl rfl))
 have hj:=hS S.j (.inr (.inr (.inl rfl)))
 have hg:=hS S.gm (.inr (.inr (.inr (.inl rfl))))
 have ht:=hS S.tb (.inr (.inr (.inr (.inr rfl))))
 have c0:=h.c0
 have c1:=h.c1
 have c2:=h.c2
 have c3:=h.c3
 have c5:=h.c5
 have hf:¬ S.fm=S.s:=fun e=>by rw [← e,h.dsk.mp.not_cell] at c0;cases c0
 refine ⟨by simp [go_sem,c0],by simp [go_sem,c1],by simp [go_sem,c2],by simp [go_sem,c3],by simp [go_sem,c5],by rw [frozen_setCell];exact h.f5,K.cell h.g0 hg,h.man.kept K hm ht,h.jrn.kept K hj,h.dsk.kept K hd hf,h.fls,h.mem.kept K (fun b hb e=>h.os (e ▸ hb)),h.srt,h.st,h.os,h.of,fun b hb=>by have:=h.ob b hb;simpa using this⟩
set_option maxHeartbeats 8000000 in
theorem hold_any {S:Sto}{own:Nat→Prop}{w:World}{F:List Fl}{n t:Nat}{ps:List Pg}{q:Int}{c:Cel}(h:StAt S own w F n t ps q)(hc:mayC c=true)(hno:∀ d∈allP ps,cmpC d c≠0)(hl:(allP ps).length≤10000)(hq:q<c.s)(hk:c.k≠⟨#[]⟩) :
  Calls Tryz.prog 66 #[.pointer (some ⟨S.s,0,none⟩),c.val] w fun e w'=>e = .returned (.tuple #[])∧∃ own' ps',StAt S own' w' F n t ps' c.s∧Ins (allP ps) c (allP ps')∧(∀ b,own b→own' b)∧(∀ b,own' b→own b∨w.heap.size≤b)∧Kept (S.turn own) w w':=by
 obtain ⟨cb,hcb⟩:∃ q,w.heap.size=q:=⟨_,rfl⟩
 obtain ⟨W0,hW0⟩:∃ W,w.alloc (Obj.cells #[.string c.k,.int .i64 c.s,.string c.v] 132)=W:=⟨_,rfl⟩
 have k0:Kept (fun _=>False) w W0:=by rw [← hW0];exact (Kept.refl _ _).alloc _
 have y0:W0.cell? ⟨cb,0,none⟩=some (.string c.k):=by rw [← hW0,← hcb];simp [go_sem]
 have y1:W0.cell? ⟨cb,1,none⟩=some (.int .i64 c.s):=by rw [← hW0,← hcb];simp [go_sem]
 have y2:W0.cell? ⟨cb,2,none⟩=some (.string c.v):=by rw [← hW0,← hcb];simp [go_sem]
 have H0:=Lib.hid (h.keptF k0)
 have K0:=Lib.hid k0
 have c1:=H0.out.c1
 have c3:=H0.out.c3
 have g0:=H0.out.g0
 have MS:=Lib.hid (fun (W:World) (K:Kept (fun _=>False) W0 W)=>mstate_any (H0.out.keptF K).man)
 have FI:=Lib.hid (fun (W:World) (tb' o':Nat) (T:TabAt W tb' o')=>find_any (key:=c.k) T hk)
 have PU:=Lib.hid (fun (W:World) (K:Kept (fun _=>False) W0 W)=>mput_any (c:=c) (H0.out.keptF K).mem hc h.srt hno hl)
 have so:¬ own S.s:=h.os
 have go:¬ own S.gm:=fun e=>h.st S.gm (.inr (.inr (.inr (.inl rfl)))) (.inl e)
 have co:¬ own cb:=fun e=>by have:=h.ob cb e;omega
 have HQ:=Lib.hid hq
 have hmax:max q c.s=c.s:=by omega
 obtain ⟨ck,cs,cv⟩:=c
 unfold Cel.val at PU ⊢
 unfold Sto.turn
 obtain ⟨SS,hSS⟩:∃ SS,SS=S:=⟨_,rfl⟩
 have H0':=H0.out
 rw [← hSS] at H0'
 have HS:=Lib.hid hSS
 have H1:=Lib.hid H0'
 obtain ⟨s,d,mb,j,gm,m,tb,o,fm,cm⟩:=S
 simp only at c1 c3 g0 MS FI PU so go y0 y1 y2 hmax ⊢
 clear h hc hno hl hk k0 hq H0' hSS
 go_enter Tryz.func66,Tryz.ntmps66
 go_wp2_with fail
 go_region_held3 (fun w'=>w'.cell? ⟨s,1,none⟩=some (.pointer (some ⟨mb,0,none⟩))∧w'.cell? ⟨s,3,none⟩=some (.slice (some ⟨gm,0,none⟩) 1 cm)∧w'.cell? ⟨gm,0,none⟩=some (.pointer (some ⟨m,0,none⟩))∧w'.cell? ⟨cb,0,none⟩=some (.string ck)∧w'.cell? ⟨cb,1,none⟩=some (.int .i64 cs)∧w'.cell? ⟨cb,2,none⟩=some (.string cv)) (first | go_keep | (go_split_ands;first | exact ⟨kk.cell (by assumption) (fun f=>f),kk.cell (by assumption) (fun f=>f),kk.cell (by assumption) (fun f=>f),kk.cell (by assumption) (fun f=>f),kk.cell (by assumption) (fun f=>f),kk.cell (by assumption) (fun f=>f)⟩ | exact ⟨kk.cell (by assumption) so,kk.cell (by assumption) so,kk.cell (by assumption) go,kk.cell (by assumption) co,kk.cell (by assumption) co,kk.cell (by assumption) co⟩))
  (first
   | (go_at_call 124;refine (PU.out _ K2.out).mono ?_;rintro e w3 ⟨rfl,pm⟩;(have PM:=Lib.hid pm);obtain ⟨_,_,_,_,_,_,kk⟩:=pm)
   | (go_at_call 95;refine (FI.out _ _ _ TT.out).mono ?_;rintro e w2 ⟨rfl,kk⟩;(have K2:=Lib.hid (K1.out.trans kk (fun _ _ f=>f) (fun _ _ f=>f))))
   | (go_at_call 61;refine (MS.out _ (Kept.refl _ _).drew).mono ?_;rintro e w1 ⟨⟨tb',o',rfl,ht,_⟩,kk⟩;unfold stV;(have K1:=Lib.hid ((Kept.refl (fun _=>False) W0).drew.trans kk (fun _ _ f=>f) (fun _ _ f=>f)));(have TT:=Lib.hid ht);clear ht))
 have H2:=H1.out.keptF K2.out
 rw [HS.out] at H2
 obtain ⟨own',ps',H3,hi,o1,o2,K3⟩:=H2.put PM.out
 have z5:=H3.c5
 have zf:=H3.f5
 have z1:=K3.cell (K2.out.cell y1 (fun f=>f)) co
 have HH3:=Lib.hid H3
 have HI:=Lib.hid (show Ins (allP ps) ⟨ck,cs,cv⟩ (allP ps') from hi)
 have O1:=Lib.hid o1
 have O2:=Lib.hid o2
 have mixed:Tryz.prog.follows .mixedOrders=true:=by kernel_rfl
 simp only at z5 zf
 clear H2 H3 hi o1 o2 kk c1 c3 g0
 go_wp2_with fail
 go_region_o
 all_goals go_wp2
 all_goals
  refine bodyPost_end (results_none rfl _ _ _) rfl ⟨rfl,own',ps',?_,HI.out,O1.out,fun b hb=>?_,?_⟩
  ·have := (HH3.out.seq cs).keptF (Kept.refl (fun _ => False) _).drew
   exact this
  ·have h1 := K0.out.size
   have h2:=K2.out.size
   rcases O2.out b hb with e | e
   ·exact .inl e
   ·exact .inr (by omega)
  ·exact (Kept.setAt (fun _=>.inr (.inl rfl)) ((K0.out.trans K2.out (T:=fun b=>own b∨b=s∨b=fm) (fun _ _ f=>f.elim) (fun _ _ f=>f.elim)).trans K3 (fun _ _ f=>f) (fun _ _ f=>.inl f))).drew
end
/- store.room: there is room. -/
section
open Go.RowKit
set_option maxRecDepth 100000

theorem w64n (n:Nat)(h:n≤1000000):wrap64 (n:Int)=(n:Int):=by
 unfold wrap64
 omega
theorem w64a (a b:Nat)(h:a+b≤1000000):wrap64 ((a:Int)+(b:Int))=((a+b:Nat):Int):=by
 rw [← Int.natCast_add]
 exact w64n _ h
theorem w64s (a:Nat)(h:a+1≤1000000):wrap64 ((a:Int)+1)=((a+1:Nat):Int):=w64a a 1 h
theorem wi64a (a b:Nat)(h:a+(b+1)≤1000000):IntKind.i64.wrap ((a:Int)+((b:Int)+1))=((a+(b+1):Nat):Int):=by
 rw [IntKind.wrap_i64]
 omega
theorem le4096 (a:Nat)(h:a≤4000):¬ ((a:Int) > 4096):=by omega
theorem room_nums {a i k L:Nat}(h1:a+L≤4000)(h2:i<L)(_:L=k):a+(i+1)≤4000∧i+1≤1000000∧a+(i+1)≤1000000:=by omega
set_option maxHeartbeats 8000000 in
theorem room_any {S:Sto}{own:Nat→Prop}{w:World}{F:List Fl}{n t:Nat}{ps:List Pg}{q:Int}{ao:Option Addr}{cap:Nat}{L:List Cel}(h:StAt S own w F n t ps q)(R:CelsR w ao L)(hk:∀ c∈L,c.k≠⟨#[]⟩)(hl:(allP ps).length+L.length≤4000) :
  Calls Tryz.prog 98 #[.pointer (some ⟨S.s,0,none⟩),.slice ao L.length cap] w fun e w'=>e = .returned (.bool true)∧Kept (fun _=>False) w w':=by
 obtain ⟨k,hn⟩:∃ k,L.length=k:=⟨_,rfl⟩
 have HN:=Lib.hid hn
 have H:=Lib.hid h
 have MS:=Lib.hid (mstate_any h.man)
 have FI:=Lib.hid (fun (key:ByteArray) (hne:key≠⟨#[]⟩) (W:World) (tb' o':Nat) (T:TabAt W tb' o')=>find_any (key:=key) T hne)
 have LE:=Lib.hid (fun (W:World) (K:Kept (fun _=>False) w W)=>mlen_any (H.out.keptF K).mem (by omega))
 have RR:=Lib.hid R
 have HK:=Lib.hid hk
 rw [hn] at hl ⊢
 have HL:=Lib.hid hl
 have hmk:∀ w,(Instr.makeSlice 80 (.int .i64 1) (.int .i64 1)).run Tryz.prog w = .ok (.slice (some ⟨w.heap.size,0,none⟩) 1 1) (w.alloc (.cells #[.int .i64 0] 3)):=fun _=>by kernel_rfl
 have c1:=h.c1
 have c3:=h.c3
 have g0:=h.g0
 obtain ⟨s,d,mb,j,gm,m,tb,o,fm,cm⟩:=S
 simp only at c1 c3 g0 MS LE ⊢
 clear h R hk hn
 go_enter Tryz.func98,Tryz.ntmps98
 go_wp2_with (first
  | (go_at_call 61;refine MS.out.mono ?_;rintro e w1 ⟨⟨tb',o',rfl,ht,_⟩,k1⟩;unfold stV;(have K1:=Lib.hid k1);(have TT:=Lib.hid ht);(have x3:=k1.cell c3 (fun f=>f));(have xg:=k1.cell g0 (fun f=>f));(have sl:=World.block_lt_of_cell? _ _ x3);clear k1 ht c1 c3 g0))
 obtain ⟨sb,hsb⟩:∃ q,w1.heap.size=q:=⟨_,rfl⟩
 obtain ⟨W2,hW2⟩:∃ W2,(w1.alloc (Obj.cells #[Value.slice (some ⟨tb',o',none⟩) 1 1,.int .i64 1,.int .i64 2] 121)).alloc (Obj.cells #[Value.int .i64 0] 3)=W2:=⟨_,rfl⟩
 have k2:Kept (fun _=>False) w1 W2:=by rw [← hW2];exact ((Kept.refl _ _).alloc _).alloc _
 have p0:W2.cell? ⟨sb,0,none⟩=some (.slice (some ⟨tb',o',none⟩) 1 1):=by rw [← hW2,← hsb];simp [go_sem]
 have p1:W2.cell? ⟨sb,1,none⟩=some (.int .i64 1):=by rw [← hW2,← hsb];simp [go_sem]
 have p2:W2.cell? ⟨sb,2,none⟩=some (.int .i64 2):=by rw [← hW2,← hsb];simp [go_sem]
 have n0:W2.cell? ⟨sb+1,0,none⟩=some (.int .i64 0):=by rw [← hW2,← hsb];simp [go_sem]
 have nf:W2.frozen? ⟨sb+1,0,none⟩=false:=by rw [← hW2,← hsb];simp [go_sem]
 have P0:=Lib.hid p0
 have P1:=Lib.hid p1
 have P2:=Lib.hid p2
 have X3:=Lib.hid (k2.cell x3 (fun f=>f))
 have XG:=Lib.hid (k2.cell xg (fun f=>f))
 have K2:=Lib.hid (K1.out.trans k2 (T:=fun _=>False) (fun _ _ f=>f) (fun _ _ f=>f))
 have T2:=Lib.hid (TT.out.kept k2 (fun f=>f))
 have SB:=Lib.hid (show w.heap.size≤sb from by have:=K1.out.size;omega)
 have SL:=Lib.hid (show s<sb from by omega)
 have GL:=Lib.hid (show gm<sb from by have:=World.block_lt_of_cell? _ _ xg;simp only at this;omega)
 have N0:=Lib.hid n0
 have NF:=Lib.hid nf
 have TL:=Lib.hid (show tb'<sb from by have:=World.block_lt_of_cell? _ _ TT.out.cells.1;simp only at this;omega)
 rw [hsb,hW2]
 clear p0 p1 p2 n0 nf hW2 hsb x3 xg sl k2
 go_loopg [23] k (fun gh t23 wr=>∃ i:Nat,i+gh=k∧t23 = .int .i64 i∧wr.cell? ⟨sb+1,0,none⟩=some (.int .i64 i)∧wr.frozen? ⟨sb+1,0,none⟩=false∧Kept (fun b=>b=sb+1) W2 wr)
 case atStart=>exact ⟨0,by omega,rfl,N0.out,NF.out,Kept.refl _ _⟩
 case round=>
  obtain ⟨i,hgh,rfl,hnc,hnf,hk⟩:=hrel
  have KW:=Lib.hid (K2.out.trans hk (T:=fun _=>False) (fun _ _ f=>f) (fun b hb e=>by have:=SB.out;omega))
  cases gk with
  | zero=>
   have hi:i=k:=by omega
   subst hi
   clear hk hnc hnf
   go_wp2_with fail
   go_ret
   exact ⟨rfl,KW.out⟩
  | succ gk=>
   have hi:i<L.length:=by have:=HN.out;omega
   have hne:¬ L=[]:=fun e=>by rw [e] at hi;simp at hi
   obtain ⟨c,hc⟩:∃ c,L[i]? = some c:=⟨_,List.getElem?_eq_getElem hi⟩
   obtain ⟨g,og,rfl,hcl⟩:=RR.out.resolve_left hne
   obtain ⟨x0,x1,x2⟩:=(hcl i c hc).kept KW.out
   have hck:=HK.out c (List.mem_of_getElem? hc)
   have q0:=hk.cell P0.out (fun (e:sb=sb+1)=>by omega)
   have q1:=hk.cell P1.out (fun (e:sb=sb+1)=>by omega)
   have q2:=hk.cell P2.out (fun (e:sb=sb+1)=>by omega)
   have q3:=hk.cell X3.out (fun (e:s=sb+1)=>by have:=SL.out;omega)
   have qg:=hk.cell XG.out (fun (e:gm=sb+1)=>by have:=GL.out;omega)
   have TW:=Lib.hid (T2.out.kept hk (fun (e:tb'=sb+1)=>by have:=TL.out;omega))
   obtain ⟨ck,cs,cv⟩:=c
   simp only at x0 x1 x2 hck
   obtain ⟨cb,hcb⟩:∃ q,wr.heap.size=q:=⟨_,rfl⟩
   obtain ⟨W3,hW3⟩:∃ W,wr.alloc (Obj.cells #[.string ck,.int .i64 cs,.string cv] 132)=W:=⟨_,rfl⟩
   have k3:Kept (fun _=>False) wr W3:=by rw [← hW3];exact (Kept.refl _ _).alloc _
   have y0:W3.cell? ⟨cb,0,none⟩=some (.string ck):=by rw [← hW3,← hcb];simp [go_sem]
   have K3:=Lib.hid k3
   have FK:=Lib.hid (fun (W:World) (T:TabAt W tb' o')=>FI.out ck hck W tb' o' T)
   have a0:=k3.cell q0 (fun f=>f)
   have a1:=k3.cell q1 (fun f=>f)
   have a2:=k3.cell q2 (fun f=>f)
   have a3:=k3.cell q3 (fun f=>f)
   have ag:=k3.cell qg (fun f=>f)
   have an:=k3.cell hnc (fun f=>f)
   have af:=k3.frozen hnf (World.block_lt_of_cell? _ _ hnc) (fun f=>f)
   have i1:((i:Nat):Int)<(k:Int):=by have:=HN.out;omega
   have i2:(0:Int)≤(i:Int):=by omega
   obtain ⟨j1,j2,j3⟩:=room_nums (show (allP ps).length+L.length≤4000 from by rw [HN.out];exact HL.out) hi HN.out
   have i4:=w64s i j2
   have i5:=w64a _ _ j3
   have i7:=wi64a _ _ j3
   have i6:=le4096 _ j1
   clear j1 j2 j3
   have GH:=Lib.hid hgh
   have HKR:=Lib.hid hk
   clear hgh hk hc hcl hi hne q0 q1 q2 q3 qg hnc hnf hck k3
   go_wp2_with (go_at_call 95;(have ff:=FK.out _ (TW.out.kept K3.out (fun f=>f)));unfold stV at ff;refine ff.mono ?_;clear ff;rintro e w4 ⟨rfl,k4⟩;(have K4:=Lib.hid (K3.out.trans k4 (T:=fun _=>False) (fun _ _ f=>f) (fun _ _ f=>f)));(have b3:=k4.cell a3 (fun f=>f));(have bg:=k4.cell ag (fun f=>f));(have bn:=k4.cell an (fun f=>f));(have bf:=k4.frozen af (World.block_lt_of_cell? _ _ an) (fun f=>f));clear k4)
   obtain ⟨w5,hw5⟩:∃ w5,w4.setCell ⟨sb+1,0,none⟩ (.int .i64 ((i:Int)+1))=w5:=⟨_,rfl⟩
   rw [hw5]
   have k5:Kept (fun b=>b=sb+1) w4 w5:=by rw [← hw5];exact (Kept.refl _ _).setAt (fun _=>rfl)
   have e3:=k5.cell b3 (fun (e:s=sb+1)=>by have:=SL.out;omega)
   have eg:=k5.cell bg (fun (e:gm=sb+1)=>by have:=GL.out;omega)
   have en:w5.cell? ⟨sb+1,0,none⟩=some (.int .i64 ((i:Int)+1)):=by rw [← hw5];simp [go_sem,bn]
   have ef:w5.frozen? ⟨sb+1,0,none⟩=false:=by rw [← hw5,frozen_setCell];exact bf
   have K5:=Lib.hid (HKR.out.trans (K4.out.trans k5 (T:=fun b=>b=sb+1) (fun _ _ f=>f.elim) (fun _ _ f=>f)) (T:=fun b=>b=sb+1) (fun _ _ f=>f) (fun _ _ f=>f))
   have KW5:=Lib.hid (KW.out.trans (K4.out.trans k5 (T:=fun b=>b=sb+1) (fun _ _ f=>f.elim) (fun _ _ f=>f)) (T:=fun _=>False) (fun _ _ f=>f) (fun b hb e=>by have:=SB.out;omega))
   clear b3 bg bn bf hw5 k5
   go_region_held3 (fun w'=>w'.cell? ⟨s,3,none⟩=some (.slice (some ⟨gm,0,none⟩) 1 cm)∧w'.cell? ⟨gm,0,none⟩=some (.pointer (some ⟨m,0,none⟩))∧w'.cell? ⟨sb+1,0,none⟩=some (.int .i64 ((i:Int)+1))) (first | go_keep | (go_split_ands;exact ⟨by assumption,by assumption,by assumption⟩))
    (first
     | (go_at_call 167;refine (LE.out _ (KW5.out.drew)).mono ?_;rintro e w6 ⟨rfl,rfl⟩))
   go_wp2_with fail
   go_roundg gk
   case measure=>omega
   case rel=>exact ⟨i+1,by have:=GH.out;omega,by simp,by simpa using en,ef,K5.out.drew⟩
end
/- slices.Clone of cells; a journal's Append of nothing; what Put makes of cells. -/
section
open Go.RowKit Go.Lib Go.Eng
set_option maxRecDepth 100000
set_option maxHeartbeats 4000000 in
theorem clonec_any {w:World}{g o c:Nat}{l:List Cel}(hl:l.length≤1000)(hs:∀ (j:Nat)(u:Value),(cellsC l)[j]? = some u→w.cell? ⟨g,o+j,none⟩=some u) :
  Calls Tryz.prog 96 #[.slice (some ⟨g,o,none⟩) l.length c] w fun e w'=>∃ q cap,e = .returned (.slice (some ⟨q,0,none⟩) l.length cap)∧RowB w' 132 3 q l.length cap (cellsC l)∧w.heap.size≤q∧Kept (fun _=>False) w w':=by
 obtain ⟨i0,hi0,z0,s0,b0⟩:=info_132
 obtain ⟨W0,hW0⟩:∃ W0:World,w.alloc (Obj.cells #[] 132)=W0:=⟨_,rfl⟩
 have k0:Kept (fun _=>False) w W0:=by rw [← hW0];exact (Kept.refl _ _).alloc _
 have R0:RowB W0 132 3 w.heap.size 0 0 []:=⟨rfl,Nat.le_refl _,#[],by rw [← hW0];exact heap_alloc_new w _,by simp,rfl⟩
 obtain ⟨g',cap',w1,hrun,hrow,hgg,K⟩:=rowb_append (ty:=65) Tryz.underlying65 hi0 z0 s0 b0 rfl R0 ⟨g,o,none⟩ l.length c (cellsC l) (cellsC_length l) (fun j u hj=>by
  rw [add_mid]
  exact k0.cell (hs j u hj) (fun f=>f)) (cellsC_one _) (by omega) (by omega)
 have hk:Kept (fun _=>False) w w1:=k0.trans K (fun _ _ f=>f) (fun i hi h=>by have:=h.1;omega)
 have hg:w.heap.size≤g':=by
  rcases hgg with h | h
  ·omega
  ·have:=k0.size;omega
 rw [Nat.zero_add] at hrow hrun
 rw [List.nil_append] at hrow
 have q65:∀ (w:World) (a:Option Addr) (n c n' c':Nat),(binOp .eql 65 (.slice a n c) (.slice none n' c')).run Tryz.prog w = .ok (.bool a.isNone) w:=fun w a n c n' c'=>Lib.run_eql_slice_nil w _ _ a n c n' c' Tryz.underlying65
 clear R0 k0 K hgg hs
 go_enter Tryz.func96,Tryz.ntmps96
 go_wp2_with (at_builtin;refine Lib.wpList_append_run _ rfl _ _ _ _ rfl _ _ rfl rfl _ _ hrun ?_)
 go_ret
 exact ⟨g',cap',rfl,hrow,hg,hk⟩
theorem clonec_nil {w:World}:Calls Tryz.prog 96 #[.slice none 0 0] w fun e w'=>e = .returned (.slice none 0 0)∧w=w':=by
 have q65:∀ (w:World) (a:Option Addr) (n c n' c':Nat),(binOp .eql 65 (.slice a n c) (.slice none n' c')).run Tryz.prog w = .ok (.bool a.isNone) w:=fun w a n c n' c'=>Lib.run_eql_slice_nil w _ _ a n c n' c' Tryz.underlying65
 go_enter Tryz.func96,Tryz.ntmps96
 go_wp2_with fail
 go_ret
 exact ⟨rfl,rfl⟩
/-- What Put makes of cells. -/
def seqL:Int→List Cel→List Cel
 | _,[]=>[]
 | q,c::t=>⟨c.k,q+1,c.v⟩::seqL (q+1) t
theorem seqL_length:∀ (L:List Cel)(q:Int),(seqL q L).length=L.length
 | [],_=>rfl
 | _::t,q=>by simp [seqL,seqL_length t]
theorem seqL_get:∀ (L:List Cel)(q:Int)(j:Nat)(c:Cel),L[j]? = some c→(seqL q L)[j]? = some ⟨c.k,q+1+j,c.v⟩
 | [],_,j,c,h=>by simp at h
 | d::t,q,0,c,h=>by
  simp at h
  subst h
  simp [seqL]
 | d::t,q,j+1,c,h=>by
  have:=seqL_get t (q+1) j c (by simpa using h)
  simp only [seqL,List.getElem?_cons_succ,this]
  congr 2
  omega
theorem seqL_mem {L:List Cel}{q:Int}{d:Cel}(h:d∈seqL q L):∃ c∈L,∃ j:Nat,j<L.length∧d=⟨c.k,q+1+j,c.v⟩:=by
 obtain ⟨j,hj,rfl⟩:=List.getElem_of_mem h
 rw [seqL_length] at hj
 have h1:=seqL_get L q j L[j] (List.getElem?_eq_getElem hj)
 rw [List.getElem?_eq_getElem (by rw [seqL_length];exact hj)] at h1
 exact ⟨_,List.getElem_mem hj,j,hj,Option.some.inj h1⟩
theorem celat_of {w:World}{g:Nat}:∀ (L:List Cel)(o:Nat),(∀ (j:Nat)(u:Value),(cellsC L)[j]? = some u→w.cell? ⟨g,o+j,none⟩=some u)→∀ (x:Nat)(c:Cel),L[x]? = some c→CelAt w g (o+x * 3) c
 | [],_,_,x,c,hc=>by simp at hc
 | d::t,o,h,0,c,hc=>by
  simp at hc
  subst hc
  exact ⟨by have:=h 0 (.string d.k) (by simp [cellsC]);simpa using this,by have:=h 1 (.int .i64 d.s) (by simp [cellsC]);simpa using this,by have:=h 2 (.string d.v) (by simp [cellsC]);simpa using this⟩
 | d::t,o,h,x+1,c,hc=>by
  have:=celat_of t (o+3) (fun j u hu=>by
   have:=h (j+3) u (by simpa [cellsC] using hu)
   rwa [show o+(j+3)=o+3+j by omega] at this) x c (by simpa using hc)
  rwa [show o+3+x * 3=o+(x+1) * 3 by omega] at this
theorem jappend_nil {w:World}{ao:Option Addr}{cap:Nat}{j d fm:Nat}{room:Int}{F:List Fl}(J:JrnOk w j d 1)(D:DiskOk w d fm room F) :
  Calls Tryz.prog 99 #[.pointer (some ⟨j,0,none⟩),.slice ao 0 cap] w fun e w'=>e = .returned (.int .i64 0)∧Kept (fun _=>False) w w':=by
 have AS:=Lib.hid (jask_any J D)
 have EN:=Lib.hid (fun (W:World)=>jenc_any (w:=W) (ao:=ao) (cap:=cap) (L:=[]) (.inl rfl) (by simp) (by simp))
 clear J D
 go_enter Tryz.func99,Tryz.ntmps99
 go_wp2_with (first
  | (go_at_call 168;refine AS.out.mono ?_;rintro e w1 ⟨rfl,k1⟩;(have K1:=Lib.hid k1);clear k1)
  | (go_at_call 97;refine (EN.out _).mono ?_;rintro e w2 ⟨⟨b,hb,rfl⟩,k2⟩;(have K2:=Lib.hid (K1.out.trans k2 (T:=fun _=>False) (fun _ _ f=>f) (fun _ _ f=>f)));clear k2 hb))
 go_ret
 exact ⟨rfl,K2.out⟩
theorem FlsOk.mono {F:List Fl}{n t n' t':Nat}(h:FlsOk F n t)(h1:n≤n')(h2:t≤t'):FlsOk F n' t':=⟨h.nm,Nat.le_trans h.ln h1,Nat.le_trans h.tt h2⟩
theorem jappendu_any {w:World}{j d fm:Nat}{room:Int}{F:List Fl}{n t:Nat}{ao:Option Addr}{cap:Nat}{L:List Cel}(J:JrnOk w j d 1)(D:DiskOk w d fm room F)(O:FlsOk F n t)(hn:n≤900)(R:CelsR w ao L)(hm:∀ c∈L,mayC c=true∧c.s≤9223372036854775807)(hl:L.length≤50)
  (ht:(t:Int)+8+230 * L.length≤room)(hr:room≤1048576) :
  Calls Tryz.prog 99 #[.pointer (some ⟨j,0,none⟩),.slice ao L.length cap] w fun e w'=>e = .returned (.int .i64 0)∧(∃ F',DiskOk w' d fm room F'∧FlsOk F' (n+1) (t+8+230 * L.length))∧Kept (fun b=>b=fm) w w':=by
 by_cases h:L=[]
 ·subst h
  refine (jappend_nil J D).mono ?_
  rintro e w' ⟨rfl,K⟩
  exact ⟨rfl,⟨F,D.kept K (fun f=>f) (fun f=>f),O.mono (by omega) (by omega)⟩,K.mono (fun _ _ f=>f.elim)⟩
 ·exact jappend_any J D O hn R hm hl h ht hr
theorem cloneu_any {w:World}{ao:Option Addr}{cap:Nat}{L:List Cel}(h:(ao=none∧cap=0∧L=[])∨∃ g o,ao=some ⟨g,o,none⟩∧∀ (j:Nat)(u:Value),(cellsC L)[j]? = some u→w.cell? ⟨g,o+j,none⟩=some u)(hl:L.length≤1000) :
  Calls Tryz.prog 96 #[.slice ao L.length cap] w fun e w'=>(∃ ao2 cap2,e = .returned (.slice ao2 L.length cap2)∧(L=[]∨∃ g,ao2=some ⟨g,0,none⟩∧RowB w' 132 3 g L.length cap2 (cellsC L)∧w.heap.size≤g))∧Kept (fun _=>False) w w':=by
 rcases h with ⟨rfl,rfl,rfl⟩ | ⟨g,o,rfl,h⟩
 ·refine clonec_nil.mono ?_
  rintro e w' ⟨rfl,rfl⟩
  exact ⟨⟨none,0,rfl,.inl rfl⟩,Kept.refl _ _⟩
 ·refine (clonec_any (c := cap) hl h).mono ?_
  rintro e w' ⟨q,c,rfl,hr,hq,K⟩
  exact ⟨⟨some ⟨q,0,none⟩,c,rfl,.inr ⟨q,rfl,hr,hq⟩⟩,K⟩
/-- The store behind a change of its disk. -/
theorem StAt.disk {S:Sto}{own:Nat→Prop}{w w':World}{F F':List Fl}{n t n' t':Nat}{ps:List Pg}{q:Int}(h:StAt S own w F n t ps q)(K:Kept (fun b=>b=S.fm) w w')(D:DiskOk w' S.d S.fm 1048576 F')(O:FlsOk F' n' t'):StAt S own w' F' n' t' ps q:=by
 have hS:∀ b,S.still b→¬ b=S.fm:=fun b hb e=>h.st b hb (.inr (.inr e))
 have hd:=hS S.d (.inl rfl)
 have hm:=hS S.mb (.inr (.inl rfl))
 have hj:=hS S.j (.inr (.inr (.inl rfl)))
 have hg:=hS S.gm (.inr (.inr (.inr (.inl rfl))))
 have ht:=hS S.tb (.inr (.inr (.inr (.inr rfl))))
 have hs:¬ S.s=S.fm:=fun e=>by
  have c0:=h.c0
  rw [e,h.dsk.mp.not_cell] at c0
  cases c0
 exact ⟨K.cell h.c0 hs,K.cell h.c1 hs,K.cell h.c2 hs,K.cell h.c3 hs,K.cell h.c5 hs,K.frozen h.f5 (World.block_lt_of_cell? _ _ h.c5) hs,K.cell h.g0 hg,h.man.kept K hm ht,h.jrn.kept K hj,D,O,h.mem.kept K (fun b hb e=>h.of (e ▸ hb)),h.srt,h.st,h.os,h.of,fun b hb=>Nat.lt_of_lt_of_le (h.ob b hb) K.size⟩
end
/- store.Put. -/
section
open Go.RowKit Go.Lib Go.Eng
set_option maxRecDepth 100000
/-- Cells some of which have their Seqs. -/
def HalfAt (w:World)(g:Nat)(L:List Cel)(q:Int)(i:Nat):Prop:=∀ (j:Nat)(c:Cel),L[j]? = some c→CelAt w g (j * 3) (if j<i then ⟨c.k,q+1+j,c.v⟩ else c)
theorem HalfAt.step {w:World}{g i:Nat}{L:List Cel}{q:Int}(h:HalfAt w g L q i):HalfAt (w.setCell ⟨g,i * 3+1,none⟩ (.int .i64 (q+1+i))) g L q (i+1):=by
 intro j c hc
 obtain ⟨h0,h1,h2⟩:=h j c hc
 by_cases hj:j=i
 ·subst hj
  rw [if_neg (by omega)] at h0 h1 h2
  rw [if_pos (by omega)]
  refine ⟨?_,?_,?_⟩ <;> simp [go_sem,h0,h1,h2]
 ·have e : (j < i + 1) ↔ (j < i) := by omega
  simp only [e]
  refine ⟨?_,?_,?_⟩
  ·simp [go_sem,h0]
  ·simp [go_sem,h1];try omega
  ·simp [go_sem,h2]
theorem HalfAt.keptF {w w':World}{g i:Nat}{L:List Cel}{q:Int}(h:HalfAt w g L q i)(K:Kept (fun _=>False) w w'):HalfAt w' g L q i:=fun j c hc=>(h j c hc).kept K
theorem HalfAt.whole {w:World}{g:Nat}{L:List Cel}{q:Int}(h:HalfAt w g L q L.length):CelsR w (some ⟨g,0,none⟩) (seqL q L):=by
 refine .inr ⟨g,0,rfl,fun j d hd=>?_⟩
 have hj:=(List.getElem?_eq_some_iff.1 hd).1
 rw [seqL_length] at hj
 have h1:=seqL_get L q j L[j] (List.getElem?_eq_getElem hj)
 rw [hd] at h1
 have:=h j L[j] (List.getElem?_eq_getElem hj)
 rw [if_pos hj] at this
 rw [Nat.zero_add,Option.some.inj h1]
 exact this
theorem perm_step {A B C:List Cel}{L:List Cel}{i:Nat}{c:Cel}(h1:B.Perm (A++L.take i))(h2:Ins B c C)(h3:L[i]? = some c):C.Perm (A++L.take (i+1)):=by
 have h4:L.take (i+1)=L.take i++[c]:=by rw [List.take_add_one,h3];rfl
 rw [h4,← List.append_assoc]
 exact h2.perm.trans (((List.Perm.cons c h1)).trans (List.perm_append_singleton c _).symm)
theorem wpos (q:Int)(i:Nat)(h:0≤q)(h2:q≤1000000)(h3:i≤1000):IntKind.i64.wrap (q+(1+(i:Int)))=q+1+i:=by
 rw [IntKind.wrap_i64]
 omega
theorem wpos1 (q:Int)(h:0≤q)(h2:q≤1000000):IntKind.i64.wrap (q+1)=q+1:=by
 rw [IntKind.wrap_i64]
 omega
theorem wpos2 (q:Int)(i:Nat)(h:0≤q)(h2:q≤1000000)(h3:i≤1000):IntKind.i64.wrap (q+1+(i:Int))=q+1+i:=by
 rw [IntKind.wrap_i64]
 omega
set_option maxHeartbeats 8000000 in
theorem sput_any {S:Sto}{own:Nat→Prop}{w:World}{F:List Fl}{n t:Nat}{ps:List Pg}{q:Int}{ao:Option Addr}{cap:Nat}{L:List Cel}(h:StAt S own w F n t ps q)
  (R:(ao=none∧cap=0∧L=[])∨∃ g o,ao=some ⟨g,o,none⟩∧∀ (j:Nat)(u:Value),(cellsC L)[j]? = some u→w.cell? ⟨g,o+j,none⟩=some u)
  (hm:∀ c∈L,∀ s:Int,0≤s→mayC ⟨c.k,s,c.v⟩=true)(hk:∀ c∈L,c.k≠⟨#[]⟩)(hq:0≤q)(hq2:q≤100000)(hs:∀ d∈allP ps,d.s≤q)(hl:(allP ps).length+L.length≤4000)(hL:L.length≤50)(hn:n≤900)(ht:t+8+230 * L.length≤1048576) :
  Calls Tryz.prog 52 #[.pointer (some ⟨S.s,0,none⟩),.slice ao L.length cap] w fun e w'=>e = .returned (.int .i64 0)∧∃ own' ps' F',StAt S own' w' F' (n+1) (t+8+230 * L.length) ps' (q+L.length)∧(allP ps').Perm (allP ps++seqL q L)∧(∀ b,own b→own' b)∧(∀ b,own' b→own b∨w.heap.size≤b)∧Kept (S.turn own) w w':=by
 obtain ⟨k,hn'⟩:∃ k,L.length=k:=⟨_,rfl⟩
 have HN:=Lib.hid hn'
 have H:=Lib.hid h
 have SA:=Lib.hid (sask_any h)
 have CL:=Lib.hid (fun (W:World) (K:Kept (fun _=>False) w W)=>cloneu_any (w:=W) (cap:=cap) (L:=L) (R.imp (fun h=>h) (fun ⟨g,o,e,f⟩=>⟨g,o,e,fun j u hj=>K.cell (f j u hj) (fun f=>f)⟩)) (by omega))
 have HM:=Lib.hid (fun c hc=>show mayC c=true∧c.s≤9223372036854775807∧c.k≠⟨#[]⟩∧q<c.s from by
  obtain ⟨d,hd,j,hj,rfl⟩:=seqL_mem (L:=L) (q:=q) (d:=c) hc
  exact ⟨hm d hd _ (by omega),by simp only;omega,hk d hd,by simp only;omega⟩)
 have HL0:=Lib.hid (And.intro hl hL)
 have HT:=Lib.hid ht
 have HNN:=Lib.hid hn
 have HS:=Lib.hid hs
 have HQ:=Lib.hid hq
 have HQ2:=Lib.hid hq2
 rw [hn'] at hl hL CL ⊢
 have c2:=h.c2
 have c5:=h.c5
 obtain ⟨SS,hSS⟩:∃ SS,SS=S:=⟨_,rfl⟩
 have HSS:=Lib.hid hSS
 have H1:=Lib.hid (hSS ▸ H.out:StAt SS own w F n t ps q)
 clear H
 obtain ⟨s,d,mb,j,gm,m,tb,o,fm,cm⟩:=S
 simp only at c2 c5 SA ⊢
 have sl:=World.block_lt_of_cell? _ _ c5
 have SL:=Lib.hid sl
 clear h R hm hk hn' hSS hl hL ht hn hs sl
 go_enter Tryz.func52,Tryz.ntmps52
 go_wp2_with (first
  | (go_at_call 69;refine SA.out.mono ?_;rintro e w1 ⟨rfl,k1⟩;(have K1:=Lib.hid k1);clear k1)
  | (go_at_call 96;refine (CL.out _ K1.out).mono ?_;rintro e w2 ⟨⟨ao2,cap2,rfl,r2⟩,k2⟩;(have K2:=Lib.hid (K1.out.trans k2 (T:=fun _=>False) (fun _ _ f=>f) (fun _ _ f=>f)));(have R2:=Lib.hid r2);clear k2 r2))
 have G2:=Lib.hid (fun (hne:¬ L=[])=>R2.out.resolve_left hne)
 have y5:=K2.out.cell c5 (fun f=>f)
 have Y2:=Lib.hid c2
 have Y5:=Lib.hid y5
 clear c5 c2 y5
 go_loopg [21] k (fun gh t21 wr=>∃ i:Nat,i+gh=k∧t21 = .int .i64 i∧(L=[]∨∃ g,ao2=some ⟨g,0,none⟩∧w.heap.size≤g∧HalfAt wr g L q i∧(∀ j,wr.frozen? ⟨g,j,none⟩=false)∧Kept (fun b=>b=g) w2 wr)∧(L=[]→Kept (fun _=>False) w2 wr))
 case atStart=>
  refine ⟨0,by omega,rfl,?_,fun _=>Kept.refl _ _⟩
  refine R2.out.imp (fun h=>h) (fun ⟨g,e,hr,hg⟩=>⟨g,e,by have:=K1.out.size;omega,fun j c hc=>?_,fun j=>?_,Kept.refl _ _⟩)
  ·rw [if_neg (by omega)]
   have:=celat_of L 0 (fun j u hu=>by rw [Nat.zero_add];exact hr.cell hu) j c hc
   rwa [Nat.zero_add] at this
  ·obtain ⟨_, _, C, hC, _⟩ := hr
   exact frozen0 hC j
 case round=>
  obtain ⟨i,hgh,rfl,hr,hr0⟩:=hrel
  cases gk with
  | zero=>
   have hi:i=k:=by omega
   subst hi
   clear hgh
   have KW:Kept (fun _=>False) w wr:=by
    by_cases he:L=[]
    ·exact K2.out.trans (hr0 he) (fun _ _ f=>f) (fun _ _ f=>f)
    ·obtain ⟨g, _, hg, _, _, hk⟩ := hr.resolve_left he
     exact K2.out.trans hk (fun _ _ f=>f) (fun b hb e=>by omega)
   have CR:CelsR wr ao2 (seqL q L):=by
    by_cases he:L=[]
    ·exact .inl (by rw [he];rfl)
    ·obtain ⟨g, rfl, hg, ha, _, hk⟩ := hr.resolve_left he
     rw [← HN.out] at ha
     exact ha.whole
   have KWH:=Lib.hid KW
   have CRH:=Lib.hid CR
   have hL':(seqL q L).length=i:=by rw [seqL_length];exact HN.out
   have HL':=Lib.hid hL'
   have EN:=Lib.hid (fun (W:World) (K:Kept (fun _=>False) wr W)=>jenc_any (w:=W) (cap:=cap2) (CRH.out.kept K) (fun c hc=>⟨(HM.out c hc).1,(HM.out c hc).2.1⟩) (by have:=HL0.out.2;have:=HN.out;omega))
   have RO:=Lib.hid (fun (W:World) (K:Kept (fun _=>False) w W) (C:CelsR W ao2 (seqL q L))=>room_any (cap:=cap2) (H1.out.keptF K) C (fun c hc=>(HM.out c hc).2.2.1) (by have:=HL0.out.1;have:=HN.out;omega))
   have AP:=Lib.hid (fun (W:World) (K:Kept (fun _=>False) w W) (C:CelsR W ao2 (seqL q L))=>jappendu_any (cap:=cap2) (H1.out.jrn.kept K (fun f=>f)) (H1.out.dsk.kept K (fun f=>f) (fun f=>f)) H1.out.fls HNN.out C (fun c hc=>⟨(HM.out c hc).1,(HM.out c hc).2.1⟩) (by have:=HL0.out.2;have:=HN.out;omega) (by have:=HT.out;have:=HN.out;omega) (by omega))
   rw [hL'] at EN RO AP
   rw [HSS.out] at RO AP
   simp only at RO AP
   have CRG:=Lib.hid (show L=[]∨∃ g,ao2=some ⟨g,0,none⟩∧w.heap.size≤g from hr.imp (fun h=>h) (fun ⟨g,e,hg,_⟩=>⟨g,e,hg⟩))
   clear KW CR hL' hr hr0
   go_wp2_with (first
    | (go_at_call 97;refine (EN.out _ (Kept.refl _ _)).mono ?_;rintro e w3 ⟨⟨b,hb,rfl⟩,k3⟩;(have K3:=Lib.hid (KWH.out.trans k3 (T:=fun _=>False) (fun _ _ f=>f) (fun _ _ f=>f)));(have C3:=Lib.hid (CRH.out.kept k3));clear k3 hb)
    | (go_at_call 98;refine (RO.out _ K3.out C3.out).mono ?_;rintro e w4 ⟨rfl,k4⟩;(have K4:=Lib.hid (K3.out.trans k4 (T:=fun _=>False) (fun _ _ f=>f) (fun _ _ f=>f)));(have C4:=Lib.hid (C3.out.kept k4));(have y2:=K4.out.cell Y2.out (fun f=>f));clear k4)
    | (go_at_call 99;refine (AP.out _ K4.out C4.out).mono ?_;rintro e w5 ⟨rfl,⟨F5,d5,o5⟩,k5⟩;(have K5:=Lib.hid k5);(have D5:=Lib.hid d5);(have O5:=Lib.hid o5);clear k5 d5 o5 y2))
   have S4:=H1.out.keptF K4.out
   have hD:SS.fm=fm:=by rw [HSS.out]
   have S5:=Lib.hid (S4.disk (by rw [hD];exact K5.out) (by rw [HSS.out];exact D5.out) O5.out)
   have W5:=Lib.hid (show w.heap.size≤w5.heap.size from Nat.le_trans K4.out.size K5.out.size)
   have C5:=Lib.hid (show L=[]∨∃ g,ao2=some ⟨g,0,none⟩∧w.heap.size≤g∧g<w5.heap.size∧∀ j c,(seqL q L)[j]? = some c→CelAt w5 g (j * 3) c from by
    rcases CRG.out with e | ⟨g,e,hg⟩
    ·exact .inl e
    ·by_cases he : L = []
     ·exact .inl he
     rcases C4.out with e' | ⟨g',o,e',f⟩
     ·have := HL'.out
      rw [e'] at this
      exact absurd (List.eq_nil_of_length_eq_zero (by have:=HN.out;simp only [List.length_nil] at *;omega)) he
     ·rw [e] at e'
      injection e' with e'
      injection e' with e1 e2
      subst e1
      subst e2
      have hfm:=H1.out.lts.2.2
      rw [hD] at hfm
      have hg':¬ g=fm:=by omega
      refine .inr ⟨g,e,hg,?_,fun j c hc=>?_⟩
      ·have h0:0<(seqL q L).length:=by
        rw [seqL_length]
        exact Nat.pos_of_ne_zero (fun h=>he (List.eq_nil_of_length_eq_zero h))
       have:=(f 0 _ (List.getElem?_eq_getElem h0)).1
       exact World.block_lt_of_cell? _ _ (K5.out.cell this hg')
      ·have := f j c hc
       rw [Nat.zero_add] at this
       exact ⟨K5.out.cell this.1 hg',K5.out.cell this.2.1 hg',K5.out.cell this.2.2 hg'⟩)
   clear S4 hD
   go_loopg [59] i (fun gh t59 wr2=>∃ (i2:Nat) (own':Nat→Prop) (ps':List Pg),i2+gh=i∧t59 = .int .i64 i2∧StAt SS own' wr2 F5 (n+1) (t+8+230 * i) ps' (q+i2)∧(allP ps').Perm (allP ps++(seqL q L).take i2)∧(∀ b,own b→own' b)∧(∀ b,own' b→own b∨w5.heap.size≤b)∧Kept (SS.turn own) w5 wr2)
   case atStart=>exact ⟨0,own,ps,by omega,rfl,by simpa using S5.out,by simp,fun b h=>h,fun b h=>.inl h,Kept.refl _ _⟩
   case round=>
    obtain ⟨i2,own',ps',hgh,rfl,hst,hpm,ho1,ho2,hk⟩:=hrel
    cases gk with
    | zero=>
     have hi:i2=i:=by omega
     subst hi
     go_wp2_with fail
     go_ret
     refine ⟨rfl,own',ps',F5,?_,?_,ho1,fun b hb=>?_,?_⟩
     ·have := hst
      rw [HSS.out] at this
      exact this
     ·rw [List.take_of_length_le (by rw [HL'.out]; omega)] at hpm
      exact hpm
     ·rcases ho2 b hb with e | e
      ·exact .inl e
      ·exact .inr (by have:=W5.out;omega)
     ·have k1 := K4.out.trans K5.out (T := fun b => b = fm) (fun _ _ f => f.elim) (fun _ _ f => f)
      have k2:=k1.trans hk (T:=SS.turn own) (fun _ _ f=>.inr (.inr (by rw [HSS.out];exact f))) (fun _ _ f=>f)
      rw [HSS.out] at k2
      exact k2
    | succ gk=>
     have hi:i2<L.length:=by have:=HN.out;omega
     have hne:¬ L=[]:=fun e=>by rw [e] at hi;simp at hi
     obtain ⟨g,rfl,hg,hg5,hcl⟩:=C5.out.resolve_left hne
     obtain ⟨c,hc⟩:∃ c,L[i2]? = some c:=⟨_,List.getElem?_eq_getElem hi⟩
     have hc2:=seqL_get L q i2 c hc
     have htn:¬ SS.turn own g:=fun e=>by
      have hl:=H1.out.lts
      rcases e with e | e | e
      ·have:=H1.out.ob g e;omega
      ·omega
      ·omega
     obtain ⟨x0,x1,x2⟩:=hcl i2 _ hc2
     simp only at x0 x1 x2
     have x0:=hk.cell x0 htn
     have x1:=hk.cell x1 htn
     have x2:=hk.cell x2 htn
     have hmem:(⟨c.k,q+1+i2,c.v⟩:Cel)∈seqL q L:=List.mem_of_getElem? hc2
     have hno:∀ d∈allP ps',cmpC d ⟨c.k,q+1+i2,c.v⟩≠0:=fun d hd e=>by
      have h1:=((cmpC_zero _ _).1 e).2
      simp only at h1
      rcases List.mem_append.1 (hpm.subset hd) with h2 | h2
      ·have:=HS.out d h2;omega
      ·obtain ⟨j, hj, rfl⟩ := List.getElem_of_mem h2
       rw [List.length_take] at hj
       rw [List.getElem_take] at h1
       have h3:j<L.length:=by omega
       have h4:=seqL_get L q j L[j] (List.getElem?_eq_getElem h3)
       rw [List.getElem?_eq_getElem (by rw [seqL_length];exact h3)] at h4
       rw [Option.some.inj h4] at h1
       simp only at h1
       omega
     have hln:(allP ps').length≤10000:=by
      rw [hpm.length_eq,List.length_append,List.length_take]
      have:=HL0.out.1
      omega
     have HO:=Lib.hid (fun (W:World) (K:Kept (fun _=>False) wr W)=>hold_any (c:=⟨c.k,q+1+i2,c.v⟩) (hst.keptF K) (HM.out _ hmem).1 hno hln (by simp only;omega) (HM.out _ hmem).2.2.1)
     have HPM:=Lib.hid hpm
     have HC:=Lib.hid hc2
     have HO1:=Lib.hid ho1
     have HO2:=Lib.hid ho2
     have HK:=Lib.hid hk
     have GH:=Lib.hid hgh
     rw [HSS.out] at HO
     unfold Cel.val at HO
     simp only at HO
     have i1:((i2:Nat):Int)<(i:Int):=by have:=HN.out;omega
     have i3:(0:Int)≤(i2:Int):=by omega
     have i6:=w64s i2 (by have:=HL0.out.2;omega)
     obtain ⟨ck,cs,cv⟩:=c
     simp only at x0 x1 x2 HO HC
     clear hgh hst hpm ho1 ho2 hk hmem hno hln hcl hg hg5 htn hc hc2 hi hne
     go_wp2_with (go_at_call 66;refine (HO.out _ ((Kept.refl _ _).alloc _)).mono ?_;rintro e w7 ⟨rfl,own2,ps2,st2,in2,o1,o2,k7⟩)
     go_roundg gk
     case measure=>omega
     case rel=>
      refine ⟨i2+1,own2,ps2,by have:=GH.out;omega,by simpa using i6,?_,perm_step HPM.out in2 HC.out,fun b hb=>o1 b (HO1.out b hb),fun b hb=>?_,?_⟩
      ·rw [HSS.out]
       have e:q+1+(i2:Int)=q+((i2+1:Nat):Int):=by omega
       rw [e] at st2
       exact st2
      ·rcases o2 b hb with e | e
       ·exact HO2.out b e
       ·have h1 := HK.out.size
        have e2:=Nat.le_trans ((Kept.refl (fun _=>False) wr).alloc _).size e
        exact .inr (by omega)
      ·have h1 := ((Kept.refl (fun _ => False) wr).alloc _).trans k7 (T := Sto.turn SS own') (fun _ _ f => f.elim) (fun _ _ f => by rw [HSS.out]; exact f)
       refine HK.out.trans h1 (fun _ _ f=>f) (fun b hb e=>?_)
       rcases e with e | e
       ·rcases HO2.out b e with e | e
        ·exact .inl e
        ·omega
       ·exact .inr e
  | succ gk=>
   have hi:i<L.length:=by have:=HN.out;omega
   have hne:¬ L=[]:=fun e=>by rw [e] at hi;simp at hi
   obtain ⟨g,rfl,hg,ha,hf,hk⟩:=hr.resolve_left hne
   obtain ⟨c,hc⟩:∃ c,L[i]? = some c:=⟨_,List.getElem?_eq_getElem hi⟩
   obtain ⟨x0,x1,x2⟩:=ha i c hc
   rw [if_neg (by omega)] at x0 x1 x2
   have q5:=hk.cell Y5.out (fun (e:s=g)=>by have:=SL.out;omega)
   have fz:=hf (i * 3+1)
   have i1:((i:Nat):Int)<(k:Int):=by have:=HN.out;omega
   have i2:(0:Int)≤(i:Int):=by omega
   have i3:i≤1000:=by have:=HL0.out.2;omega
   have i4:=wpos q i HQ.out (by have:=HQ2.out;omega) i3
   have i5:=wpos2 q i HQ.out (by have:=HQ2.out;omega) i3
   have i6:=w64s i (by omega)
   have i7:=wpos1 q HQ.out (by have:=HQ2.out;omega)
   have HA:=Lib.hid ha
   have HF:=Lib.hid hf
   have HK:=Lib.hid hk
   have GH:=Lib.hid hgh
   have HG:=Lib.hid hg
   have HNE:=Lib.hid hne
   clear ha hf hk hgh hg hne hr hr0 hi hc
   go_wp2_with fail
   go_roundg gk
   case measure=>omega
   case rel=>
    refine ⟨i+1,by have:=GH.out;omega,by simp,.inr ⟨g,rfl,HG.out,HA.out.step,fun j=>?_,HK.out.setAt (fun _=>rfl)⟩,fun e=>absurd e HNE.out⟩
    rw [frozen_setCell]
    exact HF.out j
end
end Go.Proofs.YthknocapablpaaaGreatDoor
