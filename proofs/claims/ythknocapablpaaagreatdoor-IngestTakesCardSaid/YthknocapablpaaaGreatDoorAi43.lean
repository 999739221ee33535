/- A part of the proof. -/
import Derived.Deep.RegionHeld3
import Derived.Test.YthknocapablpaaaGreatDoorAi5
import Derived.Test.YthknocapablpaaaGreatDoorAi37
import Derived.Test.YthknocapablpaaaGreatDoorAi39
import Derived.Test.YthknocapablpaaaGreatDoorAi42
namespace Go.Proofs.YthknocapablpaaaGreatDoor
/- The row of a store's spans is the document's. -/
section
open Go.RowKit Go.Lib
set_option maxRecDepth 100000
theorem cmp_key {a b:Cel}(h:cmpC a b<0):cmpS a.k b.k≤0:=by
 unfold cmpC or2 at h
 split at h
 ·omega
 ·omega
theorem getL_append (C:List Cel)(x:Cel)(k:ByteArray):getL (C++[x]) k=match getL C k with
  | some c=>some c
  | none=>if x.k=k then some x else none:=by
 unfold getL
 rw [List.filter_append]
 cases C.filter (fun c=>decide (c.k=k)) with
 | nil=>
  by_cases h:x.k=k
  ·simp [h]
  ·simp [h]
 | cons a t=>simp
theorem cel_ind {P:List Cel→Prop}(h0:P [])(h1:∀ T m,P T→P (T++[m]))(T:List Cel):P T:=by
 have:∀ L:List Cel,P L.reverse:=by
  intro L
  induction L with
  | nil=>exact h0
  | cons m t ih=>rw [List.reverse_cons];exact h1 _ _ ih
 simpa using this T.reverse
theorem nth_last (out:List Cel)(c:Cel):Mg.nth (out++[c]) ((out++[c]).length - 1)=c:=by
 simp [Mg.nth]
structure FirstOk (C:List Cel):Prop where
 rise:(Mg.firstF C).Pairwise fun a b=>cmpS a.k b.k<0
 first:∀ c∈Mg.firstF C,getL C c.k=some c
 all:∀ d∈C,∃ c∈Mg.firstF C,c.k=d.k
 last:∀ A x,C=A++[x]→∃ out c,Mg.firstF C=out++[c]∧c.k=x.k
theorem first_ok (C:List Cel):SortedC C→FirstOk C:=by
 refine cel_ind (P:=fun C=>SortedC C→FirstOk C) (fun _=>⟨List.Pairwise.nil,fun c h=>(by cases h),fun d h=>(by cases h),fun A x h=>by simp at h⟩) ?_ C
 intro C x ih hs
 have hs':=List.pairwise_append.1 hs
 have I:=ih hs'.1
 have hx:∀ a∈C,cmpC a x<0:=fun a ha=>hs'.2.2 a ha x (by simp)
 rcases List.eq_nil_or_concat C with rfl | ⟨A,y,rfl⟩
 ·have e : Mg.firstF ([] ++ [x]) = [x] := rfl
  refine ⟨by rw [e];exact List.pairwise_singleton _ _,fun c hc=>?_,fun d hd=>⟨x,by rw [e];simp,by simp at hd;rw [hd]⟩,fun A z h=>⟨[],x,by rw [e];rfl,?_⟩⟩
  ·rw [e, List.mem_singleton] at hc
   subst hc
   simp [getL]
  ·have := List.append_inj_right' h rfl
   simp at this
   rw [this]
 ·rw [List.concat_eq_append] at *
  obtain ⟨out,c,ho,hk⟩:=I.last A y rfl
  have hf:Mg.firstF ((A++[y])++[x])=Mg.addF (out++[c]) x:=by rw [Mg.firstF_snoc,ho]
  have hst:Mg.stays (out++[c]) x = !sEq c.k x.k:=by
   unfold Mg.stays
   rw [nth_last]
   simp
  by_cases e:c.k=x.k
  ·have hse : sEq c.k x.k = true := by unfold sEq; rw [e]; exact beq_self_eq_true _
   have hff:Mg.firstF ((A++[y])++[x])=out++[c]:=by rw [hf];unfold Mg.addF;rw [hst,hse];rfl
   refine ⟨by rw [hff,← ho];exact I.rise,fun d hd=>?_,fun d hd=>?_,fun B z h=>⟨out,c,hff,?_⟩⟩
   ·rw [hff, ← ho] at hd
    rw [getL_append,I.first d hd]
   ·rw [hff, ← ho]
    rcases List.mem_append.1 hd with hd | hd
    ·exact I.all d hd
    ·rw [List.mem_singleton.1 hd]
     exact ⟨c,by rw [ho];simp,e⟩
   ·have := List.append_inj_right' h rfl
    simp at this
    rw [← this,e]
  ·have hse:sEq c.k x.k=false:=by
    unfold sEq
    rw [beq_eq_false_iff_ne,ByteArray.toList_eq,ByteArray.toList_eq]
    exact fun h=>e (ByteArray.ext (Array.toList_inj.1 h))
   have hff:Mg.firstF ((A++[y])++[x])=(out++[c])++[x]:=by rw [hf];unfold Mg.addF;rw [hst,hse];rfl
   have hyx:cmpS y.k x.k<0:=by
    have h1:=cmp_key (hx y (by simp))
    have h2:cmpS y.k x.k≠0:=fun h=>e (hk.trans ((cmpS_zero _ _).1 h))
    omega
   have hlt:∀ a∈A++[y],cmpS a.k x.k<0:=fun a ha=>by
    rcases List.mem_append.1 ha with ha | ha
    ·have := (List.pairwise_append.1 hs'.1).2.2 a ha y (by simp)
     exact cmpS_is.le_lt (cmp_key this) hyx
    ·rw [List.mem_singleton.1 ha];exact hyx
   have hne:∀ a∈A++[y],a.k≠x.k:=fun a ha h=>by
    have:=hlt a ha
    rw [(cmpS_zero _ _).2 h] at this
    omega
   have hno:getL (A++[y]) x.k=none:=by
    unfold getL
    rw [List.filter_eq_nil_iff.2 (fun a ha=>by simpa using hne a ha)]
    rfl
   refine ⟨?_,fun d hd=>?_,fun d hd=>?_,fun B z h=>⟨out++[c],x,hff,?_⟩⟩
   ·rw [hff, ← ho]
    exact List.pairwise_append.2 ⟨I.rise,List.pairwise_singleton _ _,fun a ha b hb=>by rw [List.mem_singleton.1 hb];exact hlt a (firstF_sub ha)⟩
   ·rw [hff, ← ho] at hd
    rcases List.mem_append.1 hd with hd | hd
    ·rw [getL_append,I.first d hd]
    ·rw [List.mem_singleton.1 hd, getL_append, hno]
     simp
   ·rw [hff, ← ho]
    rcases List.mem_append.1 hd with hd | hd
    ·obtain ⟨q, hq, hqk⟩ := I.all d hd
     exact ⟨q,by simp [hq],hqk⟩
    ·exact ⟨x,by simp,by rw [List.mem_singleton.1 hd]⟩
   ·have := List.append_inj_right' h rfl
    simp at this
    rw [this]
/-- Which span a cell of the row has: the last one of its key. -/
theorem cell_last {C:List Cel}{T:List Spn}(hs:SortedC C)(hp:C.Perm (seqL 0 (cellsL T)))(hT:∀ m∈T,chkB m=true){c:Cel}(hc:c∈Mg.firstF C):CellIs c (lastT T c.k):=by
 have hg:=(first_ok C hs).first c hc
 obtain ⟨d,hd,j,hj,rfl⟩:=seqL_mem (hp.subset (firstF_sub hc))
 obtain ⟨m,hm,hd⟩:=mem_cellsL hd
 rcases List.mem_cons.1 hd with rfl | hd
 ·obtain ⟨q, hq, h⟩ := get_lastT hs hp m.tr m.id
  simp only at hg ⊢
  rw [show keyS m=keyF m.tr m.id from rfl] at hg ⊢
  rw [h] at hg
  cases e:lastT T (keyF m.tr m.id) with
  | none=>rw [e] at hg;cases hg
  | some x=>
   rw [e] at hg
   have hx:=lastT_key e
   have hv:encF x=encF m:=by have:=Option.some.inj hg;exact congrArg Cel.v this
   exact ⟨hT x hx.2,hx.1.symm,hv.symm⟩
 ·rcases List.mem_cons.1 hd with rfl | hd
  ·simp only
   cases e:lastT T (xkeyF m) with
   | none=>rfl
   | some x=>exact absurd (lastT_key e).1 (key_ne_x x.tr x.id m)
  ·cases hd
theorem strict_ext:∀ {a b:List Spn},Rf.StrictS a→Rf.StrictS b→(∀ x,x∈a ↔ x∈b)→a=b
 | [],[],_,_,_=>rfl
 | [],y::u,_,_,h=>by have:=(h y).2 (by simp);cases this
 | x::t,[],_,_,h=>by have:=(h x).1 (by simp);cases this
 | x::t,y::u,ha,hb,h=>by
  have ha':=List.pairwise_cons.1 ha
  have hb':=List.pairwise_cons.1 hb
  have e:x=y:=by
   rcases List.mem_cons.1 ((h x).1 (by simp)) with e | hx
   ·exact e
   ·rcases List.mem_cons.1 ((h y).2 (by simp)) with e | hy
    ·exact e.symm
    ·exact (Rf.lt_asymm (ha'.1 y hy) (hb'.1 x hx)).elim
  subst e
  have irr:∀ z,¬ Rf.keyLt z z:=fun z hz=>Rf.lt_asymm hz hz
  rw [strict_ext ha'.2 hb'.2 fun z=>⟨fun hz=>?_,fun hz=>?_⟩]
  ·rcases List.mem_cons.1 ((h z).1 (by simp [hz])) with e | hz'
   ·exact absurd (e ▸ ha'.1 z hz) (irr _)
   ·exact hz'
  ·rcases List.mem_cons.1 ((h z).2 (by simp [hz])) with e | hz'
   ·exact absurd (e ▸ hb'.1 z hz) (irr _)
   ·exact hz'
theorem live_row {C:List Cel}{T:List Spn}{now:Int}(hs:SortedC C)(hp:C.Perm (seqL 0 (cellsL T)))(hT:∀ m∈T,chkB m=true)(hI:Rf.Inv now T) :
  liveM now ((Mg.firstF C).map fun c=>lastT T c.k)=Rf.rowR now T:=by
 have F:=first_ok C hs
 have hf:∀ (c:Cel) (x:Spn),(lastT T c.k).filter (fun m=>!lateB m.st now)=some x ↔ lastT T c.k=some x∧lateB x.st now=false:=fun c x=>by
  rw [Option.filter_eq_some_iff]
  simp
 unfold liveM
 rw [List.filterMap_map]
 refine strict_ext ?_ (Rf.foldR_strict _) fun x=>?_
 ·refine List.pairwise_filterMap.2 (List.Pairwise.imp (fun {a b} h m hm m' hm' => ?_) F.rise)
  have h1:=((hf a m).1 hm).1
  have h2:=((hf b m').1 hm').1
  have k1:=lastT_key h1
  have k2:=lastT_key h2
  refine (key_less (hT m k1.2) (hT m' k2.2)).1 ?_
  rw [k1.1,k2.1]
  unfold cmpS at h
  split at h
  ·assumption
  ·split at h <;> omega
 ·rw [hI.mem, List.mem_filterMap]
  constructor
  ·rintro ⟨c, hc, h⟩
   have h1:=(hf c x).1 h
   exact ⟨(lastT_key h1.1).2,h1.2⟩
  ·rintro ⟨hx, hl⟩
   have e:=Rf.last_live hI hT hx hl
   obtain ⟨q,hq,hg⟩:=get_lastT hs hp x.tr x.id
   rw [show keyF x.tr x.id=keyS x from rfl,e] at hg
   have hd:(⟨keyS x,q,encF x⟩:Cel)∈C:=(List.mem_filter.1 (List.mem_of_mem_head? hg)).1
   obtain ⟨c,hc,hk⟩:=F.all _ hd
   refine ⟨c,hc,(hf c x).2 ⟨?_,hl⟩⟩
   rw [hk]
   exact e
/-- A store's row is the document's. -/
theorem HoldT.rowR {B:Nat}{S:Sto}{own:Nat→Prop}{w:World}{n t:Nat}{T:List Spn}(h:HoldT B S own w n t T){now:Int}(hI:Rf.Inv now T):∃ M,RowIs T M∧liveM now M=Rf.rowR now T:=by
 obtain ⟨F,ps,A,P⟩:=h.at_
 refine ⟨(Mg.firstF (allP ps)).map fun c=>lastT T c.k,⟨allP ps,A.srt,P,by simp,fun i c hc=>⟨lastT T c.k,by simp [hc],cell_last A.srt P h.chk (List.mem_of_getElem? hc)⟩⟩,live_row A.srt P h.chk hI⟩
end
/- Batches that come again, plainly: nothing of them is taken. -/
section
open Go.RowKit Go.Lib
set_option maxRecDepth 100000
/-- Of these nothing is taken any more. -/
def DoneB (now:Int)(T L:List Spn):Prop:=∀ m∈L,lateB m.st now=true∨oldT now T (keyS m)=true
theorem took_len {now:Int}{T L:List Spn}{ho fi:Int}:(tookN now T (chkI ho fi L) L).length≤8:=by
 unfold tookN
 split
 ·rename_i h
  exact Nat.le_trans take_length (chkI_len (by simpa using h))
 ·exact Nat.zero_le _
/-- A batch that may be, and of which nothing is taken any more; or one that may not be. -/
def Settled (now:Int)(T:List Spn)(ho fi:Int)(L:List Spn):Prop:=chkI ho fi L=0→DoneB now T L
end
/- A disk and a store on it: what Opened leaves. -/
section
open Go.RowKit Go.Eng
set_option maxRecDepth 100000
theorem off0 {P:Program}{η:Env}{n c c':Nat}{h h':Heap}{w w':World}{σ':Sig}(W:Went P η (sig0 n) h c w σ' h' c' w'){k:Nat}{o:AObj}(hk:h'.get k=some o):∃ b s,σ' k=some ⟨b,0,s⟩∧ObjR P σ' η w' ⟨b,0,s⟩ o:=by
 obtain ⟨l,hl,ob⟩:=W.rel.obj k o hk
 have h0:l.off=0:=by
  rcases W.off k l (by rw [hk];rfl) hl with h | ⟨m,x,_,hx,e⟩
  ·exact h
  ·unfold sig0 at hx
   split at hx
   ·cases hx;exact e.symm
   ·cases hx
 obtain ⟨b,o',s⟩:=l
 simp only at h0
 subst h0
 exact ⟨b,s,hl,ob⟩
theorem cells_of {P:Program}{σ:Sig}{η:Env}{w:World}{b s t:Nat}{cs:List AV}(h:ObjR P σ η w ⟨b,0,s⟩ (.cells t cs)):∃ (C:Array Value)(fr:Nat × Nat)(vs:List Value),w.heap[b]? = some (.cells C t fr)∧concs σ η cs=some vs∧(∀ (i:Nat)(v:Value),vs[i]? = some v→C[i]? = some v)∧(∀ i:Nat,i<vs.length→w.frozen? ⟨b,i,none⟩=false):=by
 obtain ⟨c,fr,vs,h1,h2,h3,h4,h5,h6,h7⟩:=h
 simp only [Nat.zero_add] at h1 h5 h6
 refine ⟨c,fr,vs,h1,h3,h5,fun i hi=>?_⟩
 have hl:i<lim P t c.size:=Nat.lt_of_lt_of_le (Nat.lt_of_lt_of_le hi (by omega)) lim_le
 have:=h2 i hl
 simp only [World.frozen?,h1]
 simpa using this
theorem hOp0_get {n:Nat}{o:AObj}(h:hOp0.get n=some o):n=1:=by
 have e:hOp0=Tr.set deep .nil 1 (some (.ro 265 [.sym 1])):=rfl
 rw [e] at h
 by_cases q:n=1
 ·exact q
 ·rw [Tr.get_set_other deep .nil 1 n _ (Ne.symm q), Tr.get_nil] at h
  cases h
section
variable {η:Env}{w w':World}{σ':Sig}{c':Nat}
theorem new_blk (W:Went Tryz.prog η (sig0 6) hOp0 6 w σ' hOp c' w'){k b s:Nat}{o:AObj}(hk:hOp.get k=some o)(hs:σ' k=some ⟨b,0,s⟩)(h1:k≠1):w.heap.size≤b:=by
 rcases Nat.lt_or_ge b w.heap.size with h | h
 ·obtain ⟨m, x, hm, hx, e⟩ := W.liv b h ⟨k, _, by rw [hk]; rfl, hs, rfl⟩
  obtain ⟨q,hq⟩:=Option.isSome_iff_exists.1 hm
  obtain rfl:=hOp0_get hq
  exact absurd (W.rel.inj k 1 _ x (by rw [hk];rfl) (by rfl) hs (W.ext 1 x hx) e.symm) h1
 ·exact h
theorem apart (W:Went Tryz.prog η (sig0 6) hOp0 6 w σ' hOp c' w'){k j b d s r:Nat}{o q:AObj}(hk:hOp.get k=some o)(hj:hOp.get j=some q)(hs:σ' k=some ⟨b,0,s⟩)(hr:σ' j=some ⟨d,0,r⟩)(h:k≠j):b≠d:=fun e=>
 h (W.rel.inj k j _ _ (by rw [hk];rfl) (by rw [hj];rfl) hs hr e)
set_option maxHeartbeats 4000000 in
theorem opened_at (W:Went Tryz.prog η (sig0 6) hOp0 6 w σ' hOp c' w'):∃ (S:Sto)(own:Nat→Prop),conc σ' η (.tup [.ptr 7 0,.ptr 77 0])=some (.tuple #[.pointer (some ⟨S.d,0,none⟩),.pointer (some ⟨S.s,0,none⟩)])∧HoldT w.heap.size S own w' 1 200 []:=by
 have g6:hOp.get 6=some (.map [(.str [109],.agg [.str [2,0,5,1,2,1,0,0,0,21,0,5,3],I 13],1)] 2):=rfl
 have g7:hOp.get 7=some (.cells 112 [I 1048576,I 0,.bool false,.map 6,.nilf,.nils]):=rfl
 have g12:hOp.get 12=some (.cells 215 [.str [],.nils]):=rfl
 have g13:hOp.get 13=some (.cells 195 [.ptr 7 0,I 0,.bool false,.slice 12 0 1 1 false,I 1,I 2,I 13]):=rfl
 have g67:hOp.get 67=some (.cells 199 [.ptr 7 0,I 0,.bool false,I 1]):=rfl
 have g77:hOp.get 77=some (.cells 126 [.ptr 7 0,.ptr 13 0,.ptr 67 0,.slice 91 0 1 1 true,.map 76,I 0]):=rfl
 have g76:hOp.get 76=some (.map [] 0):=rfl
 have g89:hOp.get 89=some (.cells 208 [.bool true,.nils]):=rfl
 have g91:hOp.get 91=some (.cells 127 [.ptr 89 0]):=rfl
 obtain ⟨b6,s6,e6,o6⟩:=off0 W g6
 obtain ⟨b7,s7,e7,o7⟩:=off0 W g7
 obtain ⟨b12,s12,e12,o12⟩:=off0 W g12
 obtain ⟨b13,s13,e13,o13⟩:=off0 W g13
 obtain ⟨b67,s67,e67,o67⟩:=off0 W g67
 obtain ⟨b76,s76,e76,o76⟩:=off0 W g76
 obtain ⟨b77,s77,e77,o77⟩:=off0 W g77
 obtain ⟨b89,s89,e89,o89⟩:=off0 W g89
 obtain ⟨b91,s91,e91,o91⟩:=off0 W g91
 obtain ⟨C7,r7,v7,h7,q7,c7,f7⟩:=cells_of o7
 obtain ⟨C12,r12,v12,h12,q12,c12,f12⟩:=cells_of o12
 obtain ⟨C13,r13,v13,h13,q13,c13,f13⟩:=cells_of o13
 obtain ⟨C67,r67,v67,h67,q67,c67,f67⟩:=cells_of o67
 obtain ⟨C77,r77,v77,h77,q77,c77,f77⟩:=cells_of o77
 obtain ⟨C89,r89,v89,h89,q89,c89,f89⟩:=cells_of o89
 obtain ⟨C91,r91,v91,h91,q91,c91,f91⟩:=cells_of o91
 simp only [concs,conc,I,e6,Option.some.injEq] at q7
 simp only [concs,conc,List.all_nil,List.map_nil,if_true,Option.some.injEq] at q12
 simp only [concs,conc,I,e7,e12,Option.some.injEq,Nat.add_zero,Bool.false_eq_true,if_false] at q13
 simp only [concs,conc,I,e7,Option.some.injEq,Nat.add_zero] at q67
 simp only [concs,conc,I,e7,e13,e67,e76,e91,Option.some.injEq,Nat.add_zero,if_true] at q77
 simp only [concs,conc,Option.some.injEq] at q89
 simp only [concs,conc,e89,Option.some.injEq,Nat.add_zero] at q91
 subst q7 q12 q13 q67 q77 q89 q91
 have cell:∀ {b:Nat} {C:Array Value} {t:TypeId} {r:Nat × Nat} (_:w'.heap[b]? = some (.cells C t r)) {i:Nat} {v:Value},C[i]? = some v→w'.cell? ⟨b,i,none⟩=some v:=fun h i v hv=>by
  simp only [World.cell?,h]
  simpa using hv
 obtain ⟨ms,hm,hes⟩:=o6
 have hF:MapF w' b6 (filesL [⟨⟨#[109]⟩,⟨#[2,0,5,1,2,1,0,0,0,21,0,5,3]⟩,13⟩]):=by
  obtain ⟨l⟩:=ms
  match l,hes with
  | [⟨k,v,b⟩],⟨k1,k2,k3,_⟩=>
   simp only at k1 k2 k3
   have k1':k = .string ⟨#[109]⟩:=by
    have:conc σ' η (.str [109])=some (.string ⟨#[109]⟩):=rfl
    rw [this] at k1
    exact (Option.some.inj k1).symm
   have k2':v=fileV ⟨#[2,0,5,1,2,1,0,0,0,21,0,5,3]⟩ 13:=by
    have:conc σ' η (.agg [.str [2,0,5,1,2,1,0,0,0,21,0,5,3],I 13])=some (fileV ⟨#[2,0,5,1,2,1,0,0,0,21,0,5,3]⟩ 13):=rfl
    rw [this] at k2
    exact (Option.some.inj k2).symm
   subst k1' k2' k3
   exact hm
 have n7:=new_blk W g7 e7 (by decide)
 have n6:=new_blk W g6 e6 (by decide)
 have n77:=new_blk W g77 e77 (by decide)
 have n89:=new_blk W g89 e89 (by decide)
 have lt:∀ {b:Nat} {o:Obj},w'.heap[b]? = some o→b<w'.heap.size:=fun h=>(Array.getElem?_eq_some_iff.1 h).1
 have still:∀ b,(⟨b77,b7,b13,b67,b91,b89,b12,0,b6,1+s91⟩:Sto).still b→b≠b89∧b≠b77∧b≠b6:=fun b hb=>by
  rcases hb with rfl | rfl | rfl | rfl | rfl
  ·exact ⟨apart W g7 g89 e7 e89 (by decide),apart W g7 g77 e7 e77 (by decide),apart W g7 g6 e7 e6 (by decide)⟩
  ·exact ⟨apart W g13 g89 e13 e89 (by decide),apart W g13 g77 e13 e77 (by decide),apart W g13 g6 e13 e6 (by decide)⟩
  ·exact ⟨apart W g67 g89 e67 e89 (by decide),apart W g67 g77 e67 e77 (by decide),apart W g67 g6 e67 e6 (by decide)⟩
  ·exact ⟨apart W g91 g89 e91 e89 (by decide),apart W g91 g77 e91 e77 (by decide),apart W g91 g6 e91 e6 (by decide)⟩
  ·exact ⟨apart W g12 g89 e12 e89 (by decide),apart W g12 g77 e12 e77 (by decide),apart W g12 g6 e12 e6 (by decide)⟩
 refine ⟨⟨b77,b7,b13,b67,b91,b89,b12,0,b6,1+s91⟩,fun b=>b=b89,(by simp only [conc,concs,e7,e77,Nat.add_zero]),⟨fun m hm=>(by cases hm),⟨[⟨⟨#[109]⟩,⟨#[2,0,5,1,2,1,0,0,0,21,0,5,3]⟩,13⟩],[],?_,?_⟩,?_⟩⟩
 ·refine { c0 := cell h77 (c77 0 _ rfl), c1 := cell h77 (c77 1 _ rfl), c2 := cell h77 (c77 2 _ rfl), c3 := cell h77 (c77 3 _ rfl), c5 := cell h77 (c77 5 _ rfl), f5 := f77 5 (by show 5 < 6; decide), g0 := cell h91 (c91 0 _ rfl), man := ?_, jrn := ?_, dsk := ?_, fls := ?_, mem := ?_, srt := List.Pairwise.nil, st := ?_, os := ?_, of := ?_, ob := ?_ }
  ·exact ⟨apart W g13 g12 e13 e12 (by decide),⟨C12,_,r12,h12,c12 0 _ rfl,c12 1 _ rfl⟩,C13,_,r13,h13,c13 0 _ rfl,c13 3 _ rfl,c13 4 _ rfl,c13 5 _ rfl,c13 1 _ rfl,c13 2 _ rfl⟩
  ·exact ⟨cell h67 (c67 0 _ rfl),cell h67 (c67 1 _ rfl),cell h67 (c67 2 _ rfl),cell h67 (c67 3 _ rfl)⟩
  ·exact ⟨cell h7 (c7 0 _ rfl),cell h7 (c7 1 _ rfl),cell h7 (c7 2 _ rfl),cell h7 (c7 3 _ rfl),cell h7 (c7 4 _ rfl),hF,by simp⟩
  ·exact ⟨fun f hf=>(by simp at hf;subst hf;decide),by decide,by decide⟩
  ·exact .inl ⟨rfl,⟨cell h89 (c89 0 _ rfl),cell h89 (c89 1 _ rfl),f89 1 (by show 1<2;decide),rfl,fun b hb=>hb ▸ lt h89⟩⟩
  ·intro b hb h
   have:=still b hb
   rcases h with h | h | h
   ·exact this.1 h
   ·exact this.2.1 h
   ·exact this.2.2 h
  ·exact apart W g77 g89 e77 e89 (by decide)
  ·exact apart W g6 g89 e6 e89 (by decide)
  ·exact fun b hb=>hb ▸ lt h89
 ·exact List.Perm.refl _
 ·intro b hb
  rcases hb with rfl | rfl | rfl
  ·exact n89
  ·exact n77
  ·exact n6
end
theorem last_piece2 {P:Program}{η:Env}{σ:Sig}{sm:Sm}(hm:P.follows .mixedOrders=true)(hng:NoGo P=true)(hsm:SmOk P η sm){n nt:Nat}(hn:nt≤bigN){keep:List Nat}{l:List Code}{k:Nat}{tm tm':Tmps}{h h':Heap}{c c':Nat}{fn:Func}{v:AV}{vs:List AV}{R:Ending→World→Prop}{w:World}{a:Act}
  (he:cdEq (codeK P sm n nt keep (l.drop k) tm [] h c) (.mk .ret tm' [] h' c')=true)(H:HR P σ η h c w)(T:TR σ η nt tm a.tmps)(D:a.defers=[])(hr:resV tm' h' P fn.results.toList=some vs)(hv:oneV vs=v)
  (next:∀ σ' u w',conc σ' η v=some u→Went P η σ h c w σ' h' c' w'→R (.returned u) w'):wpL P (bodyPost P fn R) (l.drop k) a w:=by
 refine wpL_mono ?_ (codeK_ok hm hng hsm n hn (cdEq_eq he) H T (by rw [D];trivial))
 rintro ex a' w' ⟨σ',rfl,d,T',W⟩
 have hd:a'.defers=[]:=by
  cases hd:a'.defers with
  | nil=>rfl
  | cons x y=>rw [hd] at d;exact d.elim
 obtain ⟨_,_,u,u1,u2⟩:=res_ok (fn:=fn) (v:=v) (h':=h') (c':=c') W.rel T' (by rw [hr];show fAV (oneV vs) (fun v=>some (CRes.mk v h' c'))=_;rw [fAV_eq,hv])
 exact ⟨hd,u,u1,next σ' u w' u2 W⟩
theorem opened_any {η:Env}{w:World}(h0:RoHeap Tryz.prog η hOp0 w):Calls Tryz.prog 11 #[] w fun e w'=>(∃ (S:Sto)(own:Nat→Prop),e = .returned (.tuple #[.pointer (some ⟨S.d,0,none⟩),.pointer (some ⟨S.s,0,none⟩)])∧HoldT w.heap.size S own w' 1 200 [])∧Kept (fun _=>False) w w':=by
 have hk:∀ n o,hOp0.get n=some o→∃ t cs,hOp.get n=some (.ro t cs):=fun n o hn=>by
  have hb:=ro_names (h0 n o hn).1 hn (by decide +kernel:roSame Tryz.prog.globals.size hOp0 hOp=true)
  exact hb
 refine calls_of_wp Tryz.func11 (c:=_) rfl (wp_flat (w:=w) ?_)
 have hp:flat _ []=pOp:=rfl
 rw [hp]
 have s0:=start_ok h0
 rw [show Tryz.prog.globals.size=6 by kernel_rfl] at s0
 rw [show pOp=pOp.drop 0 by simp]
 refine last_piece2 (l:=pOp) mixed noGo (smAll_ok (η:=η)) (by decide) rOp s0 noArgs rfl (v:=.tup [.ptr 7 0,.ptr 77 0]) (by rfl) rfl fun s u x hu W=>?_
 obtain ⟨S,own,hc,H⟩:=opened_at W
 rw [hc] at hu
 have e:=(Option.some.inj hu).symm
 subst e
 have K:=end_ok h0 (by rw [show Tryz.prog.globals.size=6 by kernel_rfl];exact W) hk
 exact ⟨⟨S,own,rfl,H⟩,⟨K.os,K.tape,K.output,K.size,K.block⟩⟩
end
/- IngestTakes of any batches. -/
section
open Go.RowKit Go.Eng
set_option maxRecDepth 100000
theorem ackV_form (x ho fi:Int)(n k:Nat):∃ x0 x1 x2 p q,ackV x ho fi n k = .tuple #[.agg #[.int .i64 x0,.int .i64 x1,.int .i64 x2],.int .i64 p,.int .i64 q]:=by
 unfold ackV
 split
 ·exact ⟨_,_,_,_,_,rfl⟩
 ·exact ⟨_,_,_,_,_,rfl⟩
/-- A store and the document's model beside it. -/
structure Both (B:Nat) (S:Sto) (own:Nat→Prop) (w:World) (n t:Nat) (T:List Spn) (mp:Nat) (ro:Nat→Prop) (U:List Spn):Prop where
 hold:HoldT B S own w n t T
 ref:Rf.RefAt w mp ro U
 ap:∀ b,S.still b∨S.turn own b→¬ (b=mp∨ro b)
section
variable {B:Nat}{S:Sto}{own:Nat→Prop}{w w':World}{n t n' t':Nat}{T T':List Spn}{mp:Nat}{ro:Nat→Prop}{U U':List Spn}
theorem Both.keptF (h:Both B S own w n t T mp ro U)(K:Kept (fun _=>False) w w'):Both B S own w' n t T mp ro U:=⟨h.hold.keptF K,h.ref.keptF K,h.ap⟩
theorem Both.took {own':Nat→Prop}(h:Both B S own w n t T mp ro U)(H:HoldT B S own' w' n' t' T')(ho:∀ b,own' b→own b∨w.heap.size≤b)(K:Kept (S.turn own) w w'):Both B S own' w' n' t' T' mp ro U:=by
 refine ⟨H,h.ref.kept K (fun e=>h.ap mp (.inr e) (.inl rfl)) (fun q hq e=>h.ap q (.inr e) (.inr hq)),fun b hb=>?_⟩
 rcases hb with hb | hb | hb
 ·exact h.ap b (.inl hb)
 ·rcases ho b hb with hb | hb
  ·exact h.ap b (.inr (.inl hb))
  ·rintro (rfl | e)
   ·have:=h.ref.lt;omega
   ·have:=h.ref.lo b e;omega
 ·exact h.ap b (.inr (.inr hb))
theorem Both.rook {ro':Nat→Prop}(h:Both B S own w n t T mp ro U)(H:Rf.RefAt w' mp ro' U')(ho:∀ q,ro' q→ro q∨w.heap.size≤q)(K:Kept (fun k=>k=mp∨ro k) w w'):Both B S own w' n t T mp ro' U':=by
 have l:=h.hold.lts
 refine ⟨h.hold.kept K (fun b hb=>h.ap b (.inl hb)) (fun b hb=>h.ap b (.inr hb)),H,fun b hb=>?_⟩
 rintro (e | e)
 ·exact h.ap b hb (.inl e)
 ·rcases ho b e with e | e
  ·exact h.ap b hb (.inr e)
  ·rcases hb with hb | hb
   ·have:=l.1 b hb;omega
   ·have:=l.2 b hb;omega
end
theorem turn_old' {S:Sto}{own:Nat→Prop}{w0 w w':World}{B:Nat}(e:w0.heap.size=B)(K:Kept (fun _=>False) w0 w)(hb:∀ b,S.turn own b→B≤b)(k:Kept (S.turn own) w w'):Kept (fun _=>False) w0 w':=
 K.trans k (fun _ _ f=>f) (fun b hl h=>by have:=hb b h;omega)
theorem roE_kept {η:Env}{h:Heap}{w w':World}(R:RoHeap Tryz.prog η h w)(K:Kept (fun _=>False) w w'):RoHeap Tryz.prog η h w':=fun n o hn=>by
 obtain ⟨h1,t,cs,h2,c,fr,vs,t0,g1,g2⟩:=R n o hn
 have hl:n<w.heap.size:=by
  rcases Nat.lt_or_ge n w.heap.size with h | h
  ·exact h
  ·rw [Array.getElem?_eq_none h] at g1;cases g1
 exact ⟨h1,t,cs,h2,c,fr,vs,t0,(K.block n hl (fun h=>h)).trans g1,g2⟩
theorem ReadsA.get {w:World}{A:List ActP}{i:Nat}{a:ActP}{ao:Option Addr}{cap n:Nat}(h:ReadsA w (.slice ao n cap) A)(ha:A[i]? = some a):∃ g o,ao=some ⟨g,o,none⟩∧ActAt w g (o+i * 4) a:=by
 obtain ⟨bo,c,e,h⟩:=h
 cases e
 rcases h with rfl | ⟨g,o,e,h⟩
 ·simp at ha
 ·exact ⟨g,o,e,h i a ha⟩
theorem own_reads' {w:World}{b:Nat}{v:Value}{L:List Spn}(h:w.ownsRow b 96 8 v L.length (cellsS L)):ReadsS w v L:=by
 rcases row_form h with ⟨e,e0⟩ | ⟨g,cap,e,_,_,_,f⟩
 ·subst e
  exact ⟨none,0,by rw [e0],.inl (List.eq_nil_of_length_eq_zero e0)⟩
 ·subst e
  exact ⟨_,cap,rfl,.inr ⟨g,0,rfl,fun j u hu=>by rw [Nat.zero_add];exact f j u hu⟩⟩
theorem neq38' (a b c:Int)(w:World):(binOp .neq 38 (.agg #[.int .i64 a,.int .i64 b,.int .i64 c]) (.agg #[.int .i64 a,.int .i64 b,.int .i64 c])).run Tryz.prog w = .ok (.bool false) w:=by
 have q:Tryz.prog.stoodInHeld 38=false:=by kernel_rfl
 have r:Tryz.prog.eqGuardType Tryz.prog.depth 38=false:=by kernel_rfl
 simp [go_sem,q]
set_option maxHeartbeats 32000000 in
theorem ingestTakes_any {η:Env}{w:World}{lv:Value}{A:List ActP}(hA:ReadsA w lv A)(hf:FitsA A)(R:RoHeap Tryz.prog η hOp0 w) :
  Calls Tryz.prog 3 #[lv] w fun e w'=>e = .returned (.bool true)∧Kept (fun _=>False) w w':=by
 have tt:∀ {a b c:World},Kept (fun _=>False) a b→Kept (fun _=>False) b c→Kept (fun _=>False) a c:=fun h k=>h.trans k (fun _ _ h=>h) (fun _ _ h=>h)
 have ek:∀ {w1 w2:World},Eng.Kept (fun _=>False) w1 w2→Kept (fun _=>False) w1 w2:=fun k=>⟨k.os,k.tape,k.output,k.size,k.block⟩
 have LV:=Lib.hid (fun W (k:Kept (fun _=>False) w W)=>lives22_any (η:=η) (w:=W) (roE_kept R k))
 have OP:=Lib.hid (fun W (k:Kept (fun _=>False) w W)=>opened_any (η:=η) (w:=W) (roE_kept R k))
 have BY:=Lib.hid (beyondA_all 30 (by decide) hA hf)
 have RA:=Lib.hid hA
 have HF:=Lib.hid hf
 obtain ⟨ao,ac,rfl,_⟩:=hA
 clear hf R
 go_enter Tryz.func3,Tryz.ntmps3
 go_wp2_with fail
 refine BY.out.mono ?_
 rintro e w1 ⟨rfl | ⟨rfl,hr⟩,rfl⟩
 ·go_wp2_with fail
  refine (LV.out _ (Kept.refl _ _)).mono ?_
  rintro e w2 ⟨rfl,k2⟩
  go_wp2
  go_ret
  exact ⟨rfl,ek k2⟩
 go_wp2_with fail
 refine (OP.out _ (Kept.refl _ _)).mono ?_
 rintro e w1 ⟨⟨S,own0,rfl,H0⟩,k1⟩
 obtain ⟨n,hn⟩:∃ n,A.length=n:=⟨_,rfl⟩
 have HN:=Lib.hid hn
 have AL:=Lib.hid hr.2
 have n30:n≤30:=by rw [← hn];exact hr.1
 have N30:=Lib.hid n30
 obtain ⟨B,hB⟩:∃ B,w.heap.size=B:=⟨_,rfl⟩
 rw [hB] at H0
 have HB:=Lib.hid hB
 obtain ⟨mp,hmp⟩:∃ mp,w1.heap.size=mp:=⟨_,rfl⟩
 have l1:=H0.lts
 rw [hmp] at l1
 have BM:=Lib.hid (show B≤mp from by have:=k1.size;omega)
 have K1:=Lib.hid (tt k1 ((Kept.refl (fun _=>False) w1).alloc (.cells #[.slice none 0 0] 32)))
 have HH:=Lib.hid (show Both B S own0 (w1.alloc (.cells #[.slice none 0 0] 32)) 1 200 [] mp (fun _=>False) [] from
  ⟨H0.keptF ((Kept.refl _ _).alloc _),⟨⟨_,0,by rw [← hmp];simp [go_sem],World.ownsRow_nil _ _ _ _,fun q h=>(by cases h),Nat.zero_le _⟩,by rw [← hmp];simp [go_sem],fun f=>f,fun _ f=>f.elim⟩,fun b hb e=>by
   rcases e with rfl | e
   ·rcases hb with hb | hb
    ·have:=l1.1 _ hb;omega
    ·have:=l1.2 _ hb;omega
   ·exact e⟩)
 rw [hn]
 clear hr hn k1 H0 hB BY n30 l1
 go_wp2
 try rw [hmp]
 clear hmp
 go_loopg [7,6] n (fun gh ti tn wr=>∃ (i:Nat) (own ro:Nat→Prop) (T:List Spn) (now:Int),i+gh=n∧ti = .int .i64 i∧tn = .int .i64 now∧(0≤now∧now≤255 * i)∧Kept (fun _=>False) w wr∧Both B S own wr (1+i) (200+9300 * i) T mp ro T∧T.length≤8 * i∧Rf.Inv now T∧∀ q,ro q→B≤q)
 case atStart=>exact ⟨0,own0,_,[],0,by omega,rfl,rfl,by omega,K1.out,HH.out,by simp,List.Pairwise.nil,fun _ f=>f.elim⟩
 case round=>
  obtain ⟨i,own,ro,T,now,ji,rfl,rfl,hnow,hkw,hh,ht,hinv,hrob⟩:=hrel
  have JI:=Lib.hid ji
  have KW:=Lib.hid hkw
  have H1:=Lib.hid hh
  have TL:=Lib.hid ht
  have IV:=Lib.hid hinv
  have RO:=Lib.hid hrob
  clear ji hkw hh ht hinv hrob HH K1
  have n30:=N30.out
  by_cases hlt:i<n
  ·have i0 : (i : Int) < (n : Int) := by omega
   have i1:(0:Int)≤(i:Int):=by omega
   obtain ⟨a,ha⟩:∃ a,A[i]? = some a:=⟨_,List.getElem?_eq_getElem (by rw [HN.out];exact hlt)⟩
   have hmem:=List.mem_of_getElem? ha
   have tk:=HF.out.ticks a hmem
   obtain ⟨later,hlater⟩:∃ later,now+a.ticks=later:=⟨_,rfl⟩
   have lat0:0≤later:=by omega
   have lat1:later≤10000:=by omega
   have LT:=Lib.hid (show later≤255 * ((i+1:Nat):Int) from by omega)
   have IV2:=Lib.hid (IV.out.later (show now≤later by omega))
   obtain ⟨g,o,rfl,hc⟩:=RA.out.get ha
   obtain ⟨sv,c0,c1,c2,rs,c3⟩:=hc
   obtain ⟨so,scp,rfl,_⟩:=id rs
   have c0:=KW.out.cell c0 (fun f=>f)
   have c1:=KW.out.cell c1 (fun f=>f)
   have c2:=KW.out.cell c2 (fun f=>f)
   have c3:=KW.out.cell c3 (fun f=>f)
   have RS:=Lib.hid rs
   have FT:=Lib.hid (HF.out.fit a hmem)
   have A20:=Lib.hid (AL.out a hmem)
   have CK0:=Lib.hid (fun W (k:Kept (fun _=>False) w W)=>check12 (ho:=a.host) (fi:=a.first) (RS.out.keptF k) A20.out FT.out)
   have RC0:=Lib.hid (fun W (k:Kept (fun _=>False) w W)=>Rf.rcheck15 (ho:=a.host) (fi:=a.first) (RS.out.keptF k) A20.out FT.out)
   have TK:=Lib.hid (fun W (h:HoldT B S own W (1+i) (200+9300 * i) T) (k:Kept (fun _=>False) w W)=>take_any12 (ho:=a.host) (fi:=a.first) (now:=later) (L:=a.spans) h (by have:=HB.out;have:=k.size;omega) (by omega) (RS.out.keptF k) A20.out FT.out (by have:=TL.out;omega) (by omega) (by omega))
   have CM:=Lib.hid H1.out.hold.chk
   have RK:=Lib.hid (fun W (h:Rf.RefAt W mp ro T) (k:Kept (fun _=>False) w W)=>Rf.rtake13 (ho:=a.host) (fi:=a.first) (now:=later) (L:=a.spans) h CM.out lat0 (by omega) (RS.out.keptF k) A20.out FT.out (by have:=TL.out;omega))
   unfold Took at TK
   obtain ⟨N,hN⟩:∃ N,tookN later T (chkI a.host a.first a.spans) a.spans=N:=⟨_,rfl⟩
   have hR:=(Rf.took_same (ho:=a.host) (fi:=a.first) (L:=a.spans) IV2.out CM.out).symm.trans hN
   have NI:=Lib.hid (show Rf.Inv later (T++N) from by rw [← hN];exact IV2.out.took CM.out)
   have NL:=Lib.hid (show N.length≤8 from by rw [← hN];exact took_len)
   rw [hN] at TK
   rw [hR] at RK
   obtain ⟨xc,hxc⟩:∃ xc,chkI a.host a.first a.spans=xc:=⟨_,rfl⟩
   rw [hxc] at TK RK CK0 RC0
   obtain ⟨ln,hln⟩:∃ ln,a.spans.length=ln:=⟨_,rfl⟩
   rw [hln] at TK RK CK0 RC0 c2
   obtain ⟨x0,x1,x2,p,q,hV⟩:=ackV_form xc a.host a.first ln N.length
   rw [hV] at TK RK
   have tk0:=tk.1
   have tk1:=tk.2
   clear hmem rs ha hxc hln hN hR hV RS FT A20 IV IV2
   have NB:=Lib.hid (show ¬ S.turn own wr.heap.size from fun h=>absurd (H1.out.hold.lts.2 _ h) (Nat.lt_irrefl _))
   have NM:=Lib.hid (show ¬ (wr.heap.size=mp∨ro wr.heap.size) from fun h=>by
    rcases h with h | h
    ·have:=H1.out.ref.lt;omega
    ·have:=H1.out.ref.lo _ h;omega)
   go_wp2_with fail
   refine (TK.out _ (H1.out.hold.keptF ((Kept.refl _ _).alloc _)) (tt KW.out ((Kept.refl _ _).alloc _))).mono ?_
   rintro e w2 ⟨rfl,own',hh2,ho2,hk2⟩
   have b0:=hk2.cell (a:=⟨wr.heap.size,0,none⟩) (v:=.int .i64 a.host) (by go_simp) NB.out
   have b1:=hk2.cell (a:=⟨wr.heap.size,1,none⟩) (v:=.int .i64 a.first) (by go_simp) NB.out
   have b2:=hk2.cell (a:=⟨wr.heap.size,2,none⟩) (v:=.slice so ln scp) (by go_simp) NB.out
   have H2:=Lib.hid ((H1.out.keptF ((Kept.refl _ _).alloc _)).took hh2 ho2 hk2)
   have K2:=Lib.hid (turn_old' HB.out (tt KW.out ((Kept.refl _ _).alloc _)) H1.out.hold.base hk2)
   have d0:∀ o,(w2.alloc o).cell? ⟨wr.heap.size,0,none⟩=some (.int .i64 a.host):=fun o=>((Kept.refl (fun _=>False) w2).alloc o).cell b0 (fun f=>f)
   have d1:∀ o,(w2.alloc o).cell? ⟨wr.heap.size,1,none⟩=some (.int .i64 a.first):=fun o=>((Kept.refl (fun _=>False) w2).alloc o).cell b1 (fun f=>f)
   have d2:∀ o,(w2.alloc o).cell? ⟨wr.heap.size,2,none⟩=some (.slice so ln scp):=fun o=>((Kept.refl (fun _=>False) w2).alloc o).cell b2 (fun f=>f)
   have N9:=Lib.hid (show ¬ (w2.heap.size=mp∨ro w2.heap.size) from fun h=>by
    rcases h with h | h
    ·have:=H2.out.ref.lt;omega
    ·have:=H2.out.ref.lo _ h;omega)
   clear b0 b1 b2 hk2 ho2 hh2 TK
   go_wp2_with fail
   refine (RK.out _ (H2.out.ref.keptF ((Kept.refl _ _).alloc _)) (tt K2.out ((Kept.refl _ _).alloc _))).mono ?_
   rintro e w3 ⟨rfl,ro',hr3,ho3,hk3⟩
   have b0:=hk3.cell (d0 _) NM.out
   have b1:=hk3.cell (d1 _) NM.out
   have b2:=hk3.cell (d2 _) NM.out
   have a0:=hk3.cell (a:=⟨w2.heap.size,0,none⟩) (v:=.int .i64 x0) (by go_simp) N9.out
   have a1:=hk3.cell (a:=⟨w2.heap.size,1,none⟩) (v:=.int .i64 x1) (by go_simp) N9.out
   have a2:=hk3.cell (a:=⟨w2.heap.size,2,none⟩) (v:=.int .i64 x2) (by go_simp) N9.out
   have H3:=Lib.hid ((H2.out.keptF ((Kept.refl _ _).alloc _)).rook hr3 ho3 hk3)
   have RO3:=Lib.hid (show ∀ q,ro' q→B≤q from fun q hq=>by
    rcases ho3 q hq with h | h
    ·exact RO.out q h
    ·have h1:=K2.out.size;have h2:=HB.out;simp at h;omega)
   have K3:=Lib.hid (show Kept (fun _=>False) w w3 from (tt K2.out ((Kept.refl _ _).alloc _)).trans hk3 (fun _ _ f=>f) (fun b hl h=>by
    have hb:=HB.out
    rcases h with h | h
    ·have:=BM.out;omega
    ·have:=RO.out b h;omega))
   clear hk3 ho3 hr3 RK d0 d1 d2 N9 NM NB
   obtain ⟨g8,hg8⟩:∃ g8,wr.heap.size=g8:=⟨_,rfl⟩
   obtain ⟨g9,hg9⟩:∃ g9,w2.heap.size=g9:=⟨_,rfl⟩
   rw [hg8] at b0 b1 b2 ⊢
   rw [hg9] at a0 a1 a2 ⊢
   clear hg8 hg9 c0 c1 c2 c3
   go_wp2_with fail
   obtain ⟨W3,hW3⟩:∃ W,w3.alloc (.cells #[.int .i64 x0,.int .i64 x1,.int .i64 x2] 38)=W:=⟨_,rfl⟩
   obtain ⟨g12,hg12⟩:∃ g,w3.heap.size=g:=⟨_,rfl⟩
   have k33:Kept (fun _=>False) w3 W3:=by rw [← hW3];exact (Kept.refl _ _).alloc _
   have b0:=k33.cell b0 (fun f=>f)
   have b1:=k33.cell b1 (fun f=>f)
   have b2:=k33.cell b2 (fun f=>f)
   have a0:=k33.cell a0 (fun f=>f)
   have a1:=k33.cell a1 (fun f=>f)
   have a2:=k33.cell a2 (fun f=>f)
   have r0:W3.cell? ⟨g12,0,none⟩=some (.int .i64 x0):=by rw [← hW3,← hg12];simp [go_sem]
   have r1:W3.cell? ⟨g12,1,none⟩=some (.int .i64 x1):=by rw [← hW3,← hg12];simp [go_sem]
   have r2:W3.cell? ⟨g12,2,none⟩=some (.int .i64 x2):=by rw [← hW3,← hg12];simp [go_sem]
   have H4:=Lib.hid (H3.out.keptF k33)
   have K4:=Lib.hid (tt K3.out k33)
   have CM4:=Lib.hid H4.out.hold.chk
   have TN:=Lib.hid (show (T++N).length≤8 * (i+1) from by rw [List.length_append];have:=TL.out;have:=NL.out;omega)
   obtain ⟨M,hM,hrow⟩:=H4.out.hold.rowR NI.out
   have LQ:=Lib.hid (fun W (k:Kept (fun _=>False) W3 W)=>live17 (now:=later) (H4.out.hold.keptF k) hM (by have:=TN.out;omega) (by omega))
   have RQ:=Lib.hid (fun W (k:Kept (fun _=>False) W3 W)=>Rf.r18 later lat0 (by omega) (H4.out.ref.keptF k) CM4.out (by have:=TN.out;omega))
   have CK:=Lib.hid (fun W (k:Kept (fun _=>False) W3 W)=>CK0.out W (tt K4.out k))
   have RC:=Lib.hid (fun W (k:Kept (fun _=>False) W3 W)=>RC0.out W (tt K4.out k))
   have ML:=Lib.hid (show (Rf.rowR later (T++N)).length≤1000000000 from by have h1:=Rf.foldR_len (Rf.liveF later (T++N));have h2:=Rf.live_len later (T++N);have:=TN.out;unfold Rf.rowR;omega)
   obtain ⟨RR,hRR⟩:∃ R,Rf.rowR later (T++N)=R:=⟨_,rfl⟩
   rw [hrow,hRR] at LQ
   rw [hRR] at RQ ML
   rw [hW3,hg12]
   have N38:=neq38'
   clear hW3 hg12 k33 H3 K3 hM hrow hRR CK0 RC0
   refine wp_region_held_drew (S:=(fun w'=>Kept (fun _=>False) W3 w'∧w'.cell? ⟨g8,0,none⟩=some (.int .i64 a.host)∧w'.cell? ⟨g8,1,none⟩=some (.int .i64 a.first)∧w'.cell? ⟨g8,2,none⟩=some (.slice so ln scp)∧w'.cell? ⟨g9,0,none⟩=some (.int .i64 x0)∧w'.cell? ⟨g9,1,none⟩=some (.int .i64 x1)∧w'.cell? ⟨g9,2,none⟩=some (.int .i64 x2)∧w'.cell? ⟨g12,0,none⟩=some (.int .i64 x0)∧w'.cell? ⟨g12,1,none⟩=some (.int .i64 x1)∧w'.cell? ⟨g12,2,none⟩=some (.int .i64 x2))) (by kernel_rfl) ?_ (fun hHeld=>?_)
   ·exact ⟨(Kept.refl _ _).drew,b0,b1,b2,a0,a1,a2,r0,r1,r2⟩
   refine tH (v:=?_) 0 opAt0 ?_ hHeld ?_
   case refine_2=>(intro w hSw;(try dsimp only at hSw);obtain ⟨_,b0,b1,b2,a0,a1,a2,r0,r1,r2⟩:=hSw;go_simp;all_goals (with_reducible rfl))
   try simp only [Act.put,z2,List.set]
   refine tH (v:=?_) 2 opAt2 ?_ hHeld ?_
   case refine_2=>(intro w hSw;(try dsimp only at hSw);obtain ⟨_,b0,b1,b2,a0,a1,a2,r0,r1,r2⟩:=hSw;go_simp;all_goals (with_reducible rfl))
   try simp only [Act.put,z2,List.set]
   refine wpAnyH_ready (rs:=[1]) (by kernel_rfl) (by simp) ?_
   refine AllReadyH.cons opAt1 (fun K hK=>?_) AllReadyH.nil
   go_simp
   go_at_call 14;refine (CK.out _ hHeld.1).mono ?_;rintro e w5 ⟨rfl,k5⟩;dsimp only
   refine hK.out _ _ ?_ (fun hHeld=>?_)
   ·exact ⟨tt hHeld.1 k5,k5.cell hHeld.2.1 (fun f=>f),k5.cell hHeld.2.2.1 (fun f=>f),k5.cell hHeld.2.2.2.1 (fun f=>f),k5.cell hHeld.2.2.2.2.1 (fun f=>f),k5.cell hHeld.2.2.2.2.2.1 (fun f=>f),k5.cell hHeld.2.2.2.2.2.2.1 (fun f=>f),k5.cell hHeld.2.2.2.2.2.2.2.1 (fun f=>f),k5.cell hHeld.2.2.2.2.2.2.2.2.1 (fun f=>f),k5.cell hHeld.2.2.2.2.2.2.2.2.2 (fun f=>f)⟩
   clear hK K
   try simp only [Act.put,z2,List.set]
   refine wpAnyH_ready (rs:=[3]) (by kernel_rfl) (by simp) ?_
   refine AllReadyH.cons opAt3 (fun K hK=>?_) AllReadyH.nil
   go_simp
   go_at_call 15;refine (RC.out _ hHeld.1).mono ?_;rintro e w5 ⟨rfl,k5⟩;dsimp only
   refine hK.out _ _ ?_ (fun hHeld=>?_)
   ·exact ⟨tt hHeld.1 k5,k5.cell hHeld.2.1 (fun f=>f),k5.cell hHeld.2.2.1 (fun f=>f),k5.cell hHeld.2.2.2.1 (fun f=>f),k5.cell hHeld.2.2.2.2.1 (fun f=>f),k5.cell hHeld.2.2.2.2.2.1 (fun f=>f),k5.cell hHeld.2.2.2.2.2.2.1 (fun f=>f),k5.cell hHeld.2.2.2.2.2.2.2.1 (fun f=>f),k5.cell hHeld.2.2.2.2.2.2.2.2.1 (fun f=>f),k5.cell hHeld.2.2.2.2.2.2.2.2.2 (fun f=>f)⟩
   clear hK K
   try simp only [Act.put,z2,List.set]
   refine tW 4 opAt4 hHeld ?_
   try simp only [Act.put,z2,List.set]
   refine tW 5 opAt5 hHeld ?_
   try simp only [Act.put,z2,List.set]
   refine tH (v:=?_) 6 opAt6 ?_ hHeld ?_
   case refine_2=>(intro w hSw;(try dsimp only at hSw);obtain ⟨_,b0,b1,b2,a0,a1,a2,r0,r1,r2⟩:=hSw;go_simp;all_goals (with_reducible rfl))
   try simp only [Act.put,z2,List.set]
   refine tH (v:=?_) 7 opAt7 ?_ hHeld ?_
   case refine_2=>(intro w hSw;(try dsimp only at hSw);obtain ⟨_,b0,b1,b2,a0,a1,a2,r0,r1,r2⟩:=hSw;go_simp;all_goals (with_reducible rfl))
   try simp only [Act.put,z2,List.set]
   refine tW 8 opAt8 hHeld ?_
   try simp only [Act.put,z2,List.set]
   refine tW 9 opAt9 hHeld ?_
   try simp only [Act.put,z2,List.set]
   refine tW 10 opAt10 hHeld ?_
   try simp only [Act.put,z2,List.set]
   refine tW 11 opAt11 hHeld ?_
   try simp only [Act.put,z2,List.set]
   refine tW 12 opAt12 hHeld ?_
   try simp only [Act.put,z2,List.set]
   refine tW 13 opAt13 hHeld ?_
   try simp only [Act.put,z2,List.set]
   refine tW 14 opAt14 hHeld ?_
   try simp only [Act.put,z2,List.set]
   refine tW 15 opAt15 hHeld ?_
   try simp only [Act.put,z2,List.set]
   refine tW 16 opAt16 hHeld ?_
   try simp only [Act.put,z2,List.set]
   refine tW 17 opAt17 hHeld ?_
   try simp only [Act.put,z2,List.set]
   refine tW 18 opAt18 hHeld ?_
   try simp only [Act.put,z2,List.set]
   refine tW 19 opAt19 hHeld ?_
   try simp only [Act.put,z2,List.set]
   refine tW 20 opAt20 hHeld ?_
   try simp only [Act.put,z2,List.set]
   refine tW 21 opAt21 hHeld ?_
   try simp only [Act.put,z2,List.set]
   refine tW 22 opAt22 hHeld ?_
   try simp only [Act.put,z2,List.set]
   refine tW 24 opAt24 hHeld ?_
   try simp only [Act.put,z2,List.set]
   refine tW 25 opAt25 hHeld ?_
   try simp only [Act.put,z2,List.set]
   refine wpAnyH_ready (rs:=[23]) (by kernel_rfl) (by simp) ?_
   refine AllReadyH.cons opAt23 (fun K hK=>?_) AllReadyH.nil
   go_simp
   go_at_call 17;refine (LQ.out _ hHeld.1).mono ?_;rintro e w5 ⟨⟨v1,rfl,o1⟩,k5⟩;have R1:=Lib.hid (own_reads' o1);obtain ⟨va,vc,rfl⟩:=own_slice o1;have K1:=Lib.hid (tt hHeld.1 k5);clear o1;dsimp only
   refine hK.out _ _ ?_ (fun hHeld=>?_)
   ·exact ⟨tt hHeld.1 k5,k5.cell hHeld.2.1 (fun f=>f),k5.cell hHeld.2.2.1 (fun f=>f),k5.cell hHeld.2.2.2.1 (fun f=>f),k5.cell hHeld.2.2.2.2.1 (fun f=>f),k5.cell hHeld.2.2.2.2.2.1 (fun f=>f),k5.cell hHeld.2.2.2.2.2.2.1 (fun f=>f),k5.cell hHeld.2.2.2.2.2.2.2.1 (fun f=>f),k5.cell hHeld.2.2.2.2.2.2.2.2.1 (fun f=>f),k5.cell hHeld.2.2.2.2.2.2.2.2.2 (fun f=>f)⟩
   clear hK K
   try simp only [Act.put,z2,List.set]
   refine wpAnyH_ready (rs:=[26]) (by kernel_rfl) (by simp) ?_
   refine AllReadyH.cons opAt26 (fun K hK=>?_) AllReadyH.nil
   go_simp
   go_at_call 18;refine (RQ.out _ hHeld.1).mono ?_;rintro e w5 ⟨v2,rfl,o2,k5⟩;have KZ:=Lib.hid k5;have R2:=Lib.hid (own_reads' o2);obtain ⟨ua,uc,rfl⟩:=own_slice o2;clear o2;dsimp only
   refine hK.out _ _ ?_ (fun hHeld=>?_)
   ·exact ⟨tt hHeld.1 k5,k5.cell hHeld.2.1 (fun f=>f),k5.cell hHeld.2.2.1 (fun f=>f),k5.cell hHeld.2.2.2.1 (fun f=>f),k5.cell hHeld.2.2.2.2.1 (fun f=>f),k5.cell hHeld.2.2.2.2.2.1 (fun f=>f),k5.cell hHeld.2.2.2.2.2.2.1 (fun f=>f),k5.cell hHeld.2.2.2.2.2.2.2.1 (fun f=>f),k5.cell hHeld.2.2.2.2.2.2.2.2.1 (fun f=>f),k5.cell hHeld.2.2.2.2.2.2.2.2.2 (fun f=>f)⟩
   clear hK K
   try simp only [Act.put,z2,List.set]
   refine wpAnyH_ready (rs:=[27]) (by kernel_rfl) (by simp) ?_
   refine AllReadyH.cons opAt27 (fun K hK=>?_) AllReadyH.nil
   go_simp
   go_at_call 16;refine (same_refl _ _ _ _ (R1.out.keptF KZ.out) R2.out ML.out).mono ?_;rintro e w5 ⟨rfl,k5⟩;dsimp only
   refine hK.out _ _ ?_ (fun hHeld=>?_)
   ·exact ⟨tt hHeld.1 k5,k5.cell hHeld.2.1 (fun f=>f),k5.cell hHeld.2.2.1 (fun f=>f),k5.cell hHeld.2.2.2.1 (fun f=>f),k5.cell hHeld.2.2.2.2.1 (fun f=>f),k5.cell hHeld.2.2.2.2.2.1 (fun f=>f),k5.cell hHeld.2.2.2.2.2.2.1 (fun f=>f),k5.cell hHeld.2.2.2.2.2.2.2.1 (fun f=>f),k5.cell hHeld.2.2.2.2.2.2.2.2.1 (fun f=>f),k5.cell hHeld.2.2.2.2.2.2.2.2.2 (fun f=>f)⟩
   clear hK K
   try simp only [Act.put,z2,List.set]
   refine tW 28 opAt28 hHeld ?_
   try simp only [Act.put,z2,List.set]
   refine tW 29 opAt29 hHeld ?_
   try simp only [Act.put,z2,List.set]
   refine wpAnyH_done (by kernel_rfl) ?_ _
   have KR:=Lib.hid (tt K4.out hHeld.1)
   have H5:=Lib.hid (H4.out.keptF hHeld.1)
   clear hHeld
   go_wp2
   go_roundg (n - i - 1)
   case measure=>have:=JI.out;omega
   case rel=>
    refine ⟨i+1,own',ro',T++N,later,by have:=JI.out;omega,by go_num,rfl,⟨lat0,LT.out⟩,KR.out,?_,TN.out,NI.out,RO3.out⟩
    have e1:1+(i+1)=1+i+1:=by omega
    have e2:200+9300 * (i+1)=200+9300 * i+9300:=by omega
    rw [e1,e2]
    exact H5.out
  ·have i0 : ¬ (i : Int) < (n : Int) := by omega
   go_wp2_with fail
   refine (LV.out _ KW.out).mono ?_
   rintro e w5 ⟨rfl,k5⟩
   go_wp2
   go_ret
   exact ⟨rfl,tt KW.out (ek k5)⟩
end
end Go.Proofs.YthknocapablpaaaGreatDoor
