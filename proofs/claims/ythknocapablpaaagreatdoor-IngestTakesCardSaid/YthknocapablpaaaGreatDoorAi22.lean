/- A part of the proof. -/
import Derived.Maps.OwnOps
import Derived.Deep.RegionHeld3
import Derived.Test.YthknocapablpaaaGreatDoorAi2
import Derived.Test.YthknocapablpaaaGreatDoorAi21
namespace Go.Proofs.YthknocapablpaaaGreatDoor
/- rows.Take of spans that may be, by whatever is there. -/
section
set_option maxRecDepth 100000
open Go.RowKit Go.MapKept Go.Instr Go.ChangeMaps

def TakenAs (w:World)(now:Int)(oldB:ByteArray→Bool)(L:List Spn)(e:Ending)(w':World):Prop:=
 ∃ vo vc,e = .returned (.tuple #[vo,vc])∧w'.ownsRow w.heap.size 96 8 vo (takeR now oldB L []).length (cellsS (takeR now oldB L []))∧w'.ownsRow w.heap.size 132 3 vc (2 * (takeR now oldB L []).length) (cellsT (takeR now oldB L []))∧Kept (fun _=>False) w w'
/-- A cell. -/
structure Ce where
 ke:ByteArray
 sq:Int
 va:ByteArray
 deriving Inhabited
def aggC (c:Ce):Value:=.agg #[.string c.ke,.int .i64 c.sq,.string c.va]

set_option maxHeartbeats 8000000 in
theorem take_rows {w:World}{p v:Value}{L:List Spn}(now:Int)(gc:ByteArray→Ce)(gb:ByteArray→Bool)(dr:Ce→Bool)(hr:ReadsS w v L)(hl:L.length≤20)(hchk:∀ m∈L,chkB m=true)(hnow:now≤9223372036854775807)
  (G:∀ w',Kept (fun _=>False) w w'→∀ k,(∃ m∈L,keyS m=k)→Calls Tryz.prog 51 #[p,.string k] w' fun e w''=>e = .returned (.tuple #[aggC (gc k),.bool (gb k)])∧Kept (fun _=>False) w' w'')
  (D:∀ w' k,(∃ m∈L,keyS m=k)→gb k=true→Calls Tryz.prog 79 #[aggC (gc k),.int .i64 now] w' fun e w''=>e = .returned (.bool (dr (gc k)))∧Kept (fun _=>False) w' w'') :
  Calls Tryz.prog 50 #[.func (.func 51) #[p] #[],v,.int .i64 now] w (TakenAs w now (fun k=>gb k && !dr (gc k)) L):=by
 obtain ⟨ao,cap,rfl,h⟩:=hr
 obtain ⟨i0,hi0,hz0,hz1,hz2⟩:=info_parts inf111
 obtain ⟨j0,hj0,hy0,hy1,hy2⟩:=info_parts inf38
 have HR:=Lib.hid h
 have CHK:=Lib.hid hchk
 have GG:=Lib.hid G
 have DD:=Lib.hid D
 have tt:∀ {a b c:World},Kept (fun _=>False) a b→Kept (fun _=>False) b c→Kept (fun _=>False) a c:=fun h k=>h.trans k (fun _ _ h=>h) (fun _ _ h=>h)
 have MK:∀ W:World,(makeMap 174 none).run Tryz.prog W = .ok (.map (some W.heap.size)) (W.alloc (.map #[] 0)):=fun W=>run_makeMap 230 W
 obtain ⟨n,hn⟩:∃ n,L.length=n:=⟨_,rfl⟩
 rw [hn] at hl ⊢
 have HN:=Lib.hid hn
 clear h hchk G D hn
 unfold TakenAs
 obtain ⟨old,hold⟩:∃ old,(fun k=>gb k && !dr (gc k))=old:=⟨_,rfl⟩
 rw [hold]
 obtain ⟨T,hT⟩:∃ T,takeR now old L []=T:=⟨_,rfl⟩
 rw [hT]
 have HO:=Lib.hid hold
 have HT:=Lib.hid hT
 clear hold hT
 go_enter Tryz.func50,Tryz.ntmps50
 go_wp2
 obtain ⟨b,hb⟩:∃ b,w.heap.size=b:=⟨_,rfl⟩
 have HB:=Lib.hid hb
 rw [hb]
 go_loopg [20,8,9] n (fun gh t vo vc wr=>∃ (i:Nat) (O:List Spn) (K:List ByteArray),i+gh=n∧t = .int .i64 i∧O.length≤i∧Kept (fun _=>False) w wr∧MapIs wr b (seenV K)∧wr.ownsRow b 96 8 vo O.length (cellsS O)∧wr.ownsRow b 132 3 vc (2 * O.length) (cellsT O)∧O++takeR now old (L.drop i) K=T)
 case atStart=>exact ⟨0,[],[],by omega,rfl,by simp,(Kept.refl _ _).alloc _,by rw [← HB.out];exact heap_alloc_new w _,World.ownsRow_nil _ _ _ _,World.ownsRow_nil _ _ _ _,by rw [List.drop_zero,List.nil_append];exact HT.out⟩
 case round=>
  obtain ⟨i,O,K,ji,rfl,oi,hK,hM,hO,hC,hT⟩:=hrel
  rename_i vo vc _
  have JI:=Lib.hid ji
  have KW:=Lib.hid hK
  have TT:=Lib.hid hT
  have OI:=Lib.hid oi
  obtain ⟨ov,oc,rfl⟩:=own_slice hO
  obtain ⟨cv,cc,rfl⟩:=own_slice hC
  have MM:=Lib.hid hM
  have OO:=Lib.hid hO
  have OC:=Lib.hid hC
  clear ji hK hT oi hM hO hC
  by_cases hlt:i<n
  ·rcases HR.out with e0 | ⟨g0, o0, rfl, hc⟩
   ·have:=HN.out;rw [e0] at this;simp at this;omega
   obtain ⟨m,hm⟩:∃ m,L[i]? = some m:=⟨_,List.getElem?_eq_getElem (by rw [HN.out];exact hlt)⟩
   obtain ⟨q0,q1,q2,q3,q4,q5,q6,q7⟩:=ReadsS.at (fun j u hu=>KW.out.cell (hc j u hu) (fun f=>f)) hm
   have hB:=CHK.out m (List.mem_of_getElem? hm)
   have gn:=chk_num hB
   have MEM:=Lib.hid (List.mem_of_getElem? hm)
   have C:=Lib.hid (fun w=>cells_good m w hB)
   have X:=Lib.hid (expired_all m now (by omega) hnow (by omega))
   have DS:=Lib.hid (drop_step hm)
   have i1:(0:Int)≤(i:Int):=by omega
   have i2:(i:Int)<(n:Int):=by omega
   clear hc hm hB gn
   unfold aggS at C X
   obtain ⟨late,hlate⟩:∃ late,lateB m.st now=late:=⟨_,rfl⟩
   have LT:=Lib.hid hlate
   rw [hlate] at X
   clear hlate
   go_wp2_with fail
   refine (C.out _).mono ?_
   rintro e w1 ⟨g,rfl,hg,h2,k1⟩
   have MID:=Lib.hid (show Mid w1 b wr.heap.size g b m K (.slice ov O.length oc) (.slice cv (2 * O.length) cc) O from
    ⟨SpanAt.new.keptF k1,h2,(MM.out.kept ((Kept.refl (fun _=>False) wr).alloc _) (fun f=>f)).kept k1 (fun f=>f),own_kept (own_kept OO.out ((Kept.refl (fun _=>False) wr).alloc _) (fun _ _ f=>f)) k1 (fun _ _ f=>f),own_kept (own_kept OC.out ((Kept.refl (fun _=>False) wr).alloc _) (fun _ _ f=>f)) k1 (fun _ _ f=>f),fun q hq e=>by have:=own_lt2 OO.out hq;simp at hg;omega⟩)
   have K1:=Lib.hid (tt KW.out (tt ((Kept.refl _ _).alloc _) k1))
   obtain ⟨ns,hns⟩:∃ ns,wr.heap.size=ns:=⟨_,rfl⟩
   rw [hns] at MID ⊢
   clear hg h2 k1 q0 q1 q2 q3 q4 q5 q6 q7 MM OO OC hns
   have s0:w1.cell? ⟨ns,0,none⟩=some (.int .i64 m.tr):=MID.out.span 0 _ rfl
   have s1:w1.cell? ⟨ns,1,none⟩=some (.int .i64 m.id):=MID.out.span 1 _ rfl
   have s2:w1.cell? ⟨ns,2,none⟩=some (.int .i64 m.pa):=MID.out.span 2 _ rfl
   have s3:w1.cell? ⟨ns,3,none⟩=some (.string m.se):=MID.out.span 3 _ rfl
   have s4:w1.cell? ⟨ns,4,none⟩=some (.string m.ho):=MID.out.span 4 _ rfl
   have s5:w1.cell? ⟨ns,5,none⟩=some (.int .i64 m.st):=MID.out.span 5 _ rfl
   have s6:w1.cell? ⟨ns,6,none⟩=some (.int .i64 m.du):=MID.out.span 6 _ rfl
   have s7:w1.cell? ⟨ns,7,none⟩=some (.string m.no):=MID.out.span 7 _ rfl
   go_wp2_with fail
   refine (X.out _).mono ?_
   rintro e w2 ⟨rfl,k2⟩
   have M2:=Lib.hid (MID.out.keptF k2)
   have K2:=Lib.hid (tt K1.out k2)
   clear k2 s0 s1 s2 s3 s4 s5 s6 s7 MID K1 C X
   cases late with
   | true=>
    go_wp2
    go_roundg (n - i - 1)
    case measure=>have:=JI.out;omega
    case rel=>
     have e:=TT.out
     rw [← DS.out,takeR,LT.out,Bool.true_or,Bool.true_or] at e
     exact ⟨i+1,O,K,by have:=JI.out;omega,by go_num,by have:=OI.out;omega,K2.out,M2.out.map,M2.out.out,M2.out.cells,e⟩
   | false=>
    obtain ⟨kk,hkk⟩:∃ kk,keyF m.tr m.id=kk:=⟨_,rfl⟩
    have KK:=Lib.hid hkk
    have c0:w2.cell? ⟨g,0,none⟩=some (.string kk):=by rw [← hkk];exact M2.out.two 0 _ rfl
    have LK:=look_seen M2.out.map kk
    obtain ⟨sn,hsn⟩:∃ sn,decide (kk∈K)=sn:=⟨_,rfl⟩
    have SN:=Lib.hid hsn
    rw [hsn] at LK
    clear hsn hkk
    cases sn with
    | true=>
     unfold oneN at LK
     go_wp2
     go_roundg (n - i - 1)
     case measure=>have:=JI.out;omega
     case rel=>
      have e:=TT.out
      rw [← DS.out,takeR,LT.out,show keyS m=kk from KK.out,SN.out,Bool.or_true,Bool.true_or] at e
      exact ⟨i+1,O,K,by have:=JI.out;omega,by go_num,by have:=OI.out;omega,K2.out,M2.out.map,M2.out.out,M2.out.cells,e⟩
    | false=>
     unfold oneN at LK
     have GC:=Lib.hid (GG.out w2 K2.out kk ⟨m,MEM.out,KK.out⟩)
     unfold aggC at GC
     obtain ⟨gk,hgk⟩:∃ gk,gb kk=gk:=⟨_,rfl⟩
     have GK:=Lib.hid hgk
     rw [hgk] at GC
     clear hgk
     cases gk with
     | false=>
      go_upto_region 11 with (go_at_call 51;refine GC.out.mono ?_;rintro e w3 ⟨rfl,k3⟩)
      have M3:=fun o=>(M2.out.keptF k3).keptF ((Kept.refl (fun _=>False) w3).alloc o)
      have K3:=fun o=>tt K2.out (tt k3 ((Kept.refl (fun _=>False) w3).alloc o))
      generalize hW4:w3.alloc _=W4
      have M4:=Lib.hid (hW4 ▸ M3 _)
      have K4:=Lib.hid (hW4 ▸ K3 _)
      clear hW4 M3 K3 k3 c0 LK M2 K2 GC
      have c0:W4.cell? ⟨g,0,none⟩=some (.string kk):=by rw [← KK.out];exact M4.out.two 0 _ rfl
      have LK:=look_seen M4.out.map kk
      rw [SN.out] at LK
      unfold oneN at LK
      obtain ⟨W5,hU,mU,kU⟩:=upd_seen M4.out.map SN.out
      have M5:=Lib.hid (M4.out.seen kU mU)
      have K5:=Lib.hid (show Kept (fun _=>False) w W5 from K4.out.trans kU (fun _ _ f=>f) (fun q hq e=>by have:=HB.out;omega))
      have s0:W5.cell? ⟨ns,0,none⟩=some (.int .i64 m.tr):=M5.out.span 0 _ rfl
      have s1:W5.cell? ⟨ns,1,none⟩=some (.int .i64 m.id):=M5.out.span 1 _ rfl
      have s2:W5.cell? ⟨ns,2,none⟩=some (.int .i64 m.pa):=M5.out.span 2 _ rfl
      have s3:W5.cell? ⟨ns,3,none⟩=some (.string m.se):=M5.out.span 3 _ rfl
      have s4:W5.cell? ⟨ns,4,none⟩=some (.string m.ho):=M5.out.span 4 _ rfl
      have s5:W5.cell? ⟨ns,5,none⟩=some (.int .i64 m.st):=M5.out.span 5 _ rfl
      have s6:W5.cell? ⟨ns,6,none⟩=some (.int .i64 m.du):=M5.out.span 6 _ rfl
      have s7:W5.cell? ⟨ns,7,none⟩=some (.string m.no):=M5.out.span 7 _ rfl
      clear mU kU
      go_wp2_with (at_builtin;refine wpList_append_own _ rfl _ _ 30 rfl b 96 i0 _ 8 88 Tryz.underlying30 hi0 hz0 hz1 hz2 rfl (by decide) _ _ _ rfl (own_kept M5.out.out ((Kept.refl (fun _=>False) W5).alloc _) (fun _ _ f=>f)) ⟨W5.heap.size,0,none⟩ 1 1 m.cells rfl rfl (World.news_of_block (heap_alloc_new W5 _)) ?qa ?qb ?qc ?qd ?_)
      case qa=>intro u hu;simp [Spn.cells] at hu;rcases hu with rfl | rfl | rfl | rfl | rfl | rfl | rfl | rfl <;> rfl
      case qb=>unfold maxLen;have:=OI.out;omega
      case qc=>have:=OI.out;omega
      case qd=>have:=K5.out.size;have:=HB.out;simp;omega
      intro v' w8 hown hgrow hnil
      obtain ⟨a8,cap8,rfl⟩:=own_slice hown
      have kA:Kept (fun _=>False) W5 (W5.alloc (.cells #[.int .i64 m.tr,.int .i64 m.id,.int .i64 m.pa,.string m.se,.string m.ho,.int .i64 m.st,.int .i64 m.du,.string m.no] 96)):=(Kept.refl _ _).alloc _
      have kG:=grown_kept hgrow
      have O8:=Lib.hid hown
      have T8:=Lib.hid (show ∀ j u,(cellsOfS m)[j]? = some u→w8.cell? ⟨g,j,none⟩=some u from fun j u hu=>kG.cell (kA.cell (M5.out.two j u hu) (fun f=>f)) (fun e=>M5.out.far g e rfl))
      have N8:=Lib.hid (show ∀ j u,(cellsOfS m)[j]? = some u→w8.cell? ((⟨g,0,none⟩:Addr).add j)=some u from fun j u hu=>by
       cases j with
       | zero=>simpa [Addr.add] using T8.out 0 u hu
       | succ j=>simpa [Addr.add] using T8.out (j+1) u hu)
      have C8:=Lib.hid (own_kept (own_kept M5.out.cells kA (fun _ _ f=>f)) kG (fun q hq e=>own_types M5.out.cells M5.out.out (by decide) hq e))
      have m8:=Lib.hid ((M5.out.map.kept kA (fun f=>f)).kept kG (fun e=>own_map M5.out.out M5.out.map e))
      have K8:=Lib.hid (show Kept (fun _=>False) w w8 from (tt K5.out kA).trans kG (fun _ _ f=>f) (fun q hq e=>by have:=own_from M5.out.out e;have:=HB.out;omega))
      clear kA kG hown hgrow hnil s0 s1 s2 s3 s4 s5 s6 s7 hU LK c0 M5 K5
      go_wp2_with (at_builtin;refine wpList_append_own _ rfl _ _ 65 rfl b 132 j0 _ 3 40 Tryz.underlying65 hj0 hy0 hy1 hy2 rfl (by decide) _ _ _ rfl C8.out ⟨g,0,none⟩ 2 2 (cellsOfS m) rfl rfl N8.out ?qa ?qb ?qc ?qd ?_)
      case qa=>intro u hu;simp [cellsOfS] at hu;rcases hu with rfl | rfl | rfl | rfl | rfl | rfl <;> rfl
      case qb=>unfold maxLen;have:=OI.out;omega
      case qc=>have:=OI.out;omega
      case qd=>have:=K8.out.size;have:=HB.out;omega
      intro v'' w9 hown hgrow hnil
      obtain ⟨a9,cap9,rfl⟩:=own_slice hown
      have kG:=grown_kept hgrow
      have C9:=Lib.hid hown
      have O9:=Lib.hid (own_kept O8.out kG (fun q hq e=>own_types O8.out C8.out (by decide) hq e))
      have m9:=Lib.hid (m8.out.kept kG (fun e=>own_map C8.out m8.out e))
      have K9:=Lib.hid (show Kept (fun _=>False) w w9 from K8.out.trans kG (fun _ _ f=>f) (fun q hq e=>by have:=own_from C8.out e;have:=HB.out;omega))
      clear kG hown hgrow hnil
      go_wp2
      go_roundg (n - i - 1)
      case measure=>have:=JI.out;omega
      case rel=>
       have e:=TT.out
       rw [← DS.out,takeR,LT.out,show keyS m=kk from KK.out,SN.out,show old kk=false from by rw [← HO.out];simp [GK.out]] at e
       simp only [Bool.or_self] at e
       have l1:(O++[m]).length=O.length+1:=by simp
       have l2:cellsS (O++[m])=cellsS O++m.cells:=by rw [cellsS_append];simp [cellsS]
       have l3:cellsT (O++[m])=cellsT O++cellsOfS m:=by rw [cellsT_append];simp [cellsT]
       have l4:2 * (O++[m]).length=2 * O.length+2:=by rw [l1];omega
       exact ⟨i+1,O++[m],K++[kk],by have:=JI.out;omega,by go_num,by have:=OI.out;omega,K9.out,m9.out,by rw [l1,l2];exact O9.out,by rw [l4,l3];exact C9.out,by rw [List.append_assoc];exact e⟩
     | true=>
      obtain ⟨dk,hdk⟩:∃ dk,dr (gc kk)=dk:=⟨_,rfl⟩
      have DK:=Lib.hid hdk
      have DC:=Lib.hid (fun w'=>DD.out w' kk ⟨m,MEM.out,KK.out⟩ GK.out)
      rw [hdk] at DC
      unfold aggC at DC
      clear hdk
      cases dk with
      | false=>
       go_wp2_with (first | (go_at_call 51;refine GC.out.mono ?_;rintro e w3 ⟨rfl,k3⟩) | (go_at_call 79;refine (DC.out _).mono ?_;rintro e w4 ⟨rfl,k4⟩))
       have kq:=tt k3 (tt ((Kept.refl (fun _=>False) w3).alloc _) k4)
       have M4:=M2.out.keptF kq
       have K4:=tt K2.out kq
       go_roundg (n - i - 1)
       case measure=>have:=JI.out;omega
       case rel=>
        have e:=TT.out
        rw [← DS.out,takeR,LT.out,show keyS m=kk from KK.out,SN.out,show old kk=true from by rw [← HO.out];simp [GK.out,DK.out],Bool.or_true] at e
        exact ⟨i+1,O,K,by have:=JI.out;omega,by go_num,by have:=OI.out;omega,K4,M4.map,M4.out,M4.cells,e⟩
      | true=>
       go_upto_region 11 with (first | (go_at_call 51;refine GC.out.mono ?_;rintro e w3 ⟨rfl,k3⟩) | (go_at_call 79;refine (DC.out _).mono ?_;rintro e w4 ⟨rfl,k4⟩))
       have kq:=tt k3 (tt ((Kept.refl (fun _=>False) w3).alloc _) k4)
       have M4:=Lib.hid (M2.out.keptF kq)
       have K4:=Lib.hid (tt K2.out kq)
       clear kq k3 k4 c0 LK M2 K2 GC DC
       have c0:w4.cell? ⟨g,0,none⟩=some (.string kk):=by rw [← KK.out];exact M4.out.two 0 _ rfl
       have LK:=look_seen M4.out.map kk
       rw [SN.out] at LK
       unfold oneN at LK
       obtain ⟨W5,hU,mU,kU⟩:=upd_seen M4.out.map SN.out
       have M5:=Lib.hid (M4.out.seen kU mU)
       have K5:=Lib.hid (show Kept (fun _=>False) w W5 from K4.out.trans kU (fun _ _ f=>f) (fun q hq e=>by have:=HB.out;omega))
       have s0:W5.cell? ⟨ns,0,none⟩=some (.int .i64 m.tr):=M5.out.span 0 _ rfl
       have s1:W5.cell? ⟨ns,1,none⟩=some (.int .i64 m.id):=M5.out.span 1 _ rfl
       have s2:W5.cell? ⟨ns,2,none⟩=some (.int .i64 m.pa):=M5.out.span 2 _ rfl
       have s3:W5.cell? ⟨ns,3,none⟩=some (.string m.se):=M5.out.span 3 _ rfl
       have s4:W5.cell? ⟨ns,4,none⟩=some (.string m.ho):=M5.out.span 4 _ rfl
       have s5:W5.cell? ⟨ns,5,none⟩=some (.int .i64 m.st):=M5.out.span 5 _ rfl
       have s6:W5.cell? ⟨ns,6,none⟩=some (.int .i64 m.du):=M5.out.span 6 _ rfl
       have s7:W5.cell? ⟨ns,7,none⟩=some (.string m.no):=M5.out.span 7 _ rfl
       clear mU kU
       go_wp2_with (at_builtin;refine wpList_append_own _ rfl _ _ 30 rfl b 96 i0 _ 8 88 Tryz.underlying30 hi0 hz0 hz1 hz2 rfl (by decide) _ _ _ rfl (own_kept M5.out.out ((Kept.refl (fun _=>False) W5).alloc _) (fun _ _ f=>f)) ⟨W5.heap.size,0,none⟩ 1 1 m.cells rfl rfl (World.news_of_block (heap_alloc_new W5 _)) ?qa ?qb ?qc ?qd ?_)
       case qa=>intro u hu;simp [Spn.cells] at hu;rcases hu with rfl | rfl | rfl | rfl | rfl | rfl | rfl | rfl <;> rfl
       case qb=>unfold maxLen;have:=OI.out;omega
       case qc=>have:=OI.out;omega
       case qd=>have:=K5.out.size;have:=HB.out;simp;omega
       intro v' w8 hown hgrow hnil
       obtain ⟨a8,cap8,rfl⟩:=own_slice hown
       have kA:Kept (fun _=>False) W5 (W5.alloc (.cells #[.int .i64 m.tr,.int .i64 m.id,.int .i64 m.pa,.string m.se,.string m.ho,.int .i64 m.st,.int .i64 m.du,.string m.no] 96)):=(Kept.refl _ _).alloc _
       have kG:=grown_kept hgrow
       have O8:=Lib.hid hown
       have T8:=Lib.hid (show ∀ j u,(cellsOfS m)[j]? = some u→w8.cell? ⟨g,j,none⟩=some u from fun j u hu=>kG.cell (kA.cell (M5.out.two j u hu) (fun f=>f)) (fun e=>M5.out.far g e rfl))
       have N8:=Lib.hid (show ∀ j u,(cellsOfS m)[j]? = some u→w8.cell? ((⟨g,0,none⟩:Addr).add j)=some u from fun j u hu=>by
        cases j with
        | zero=>simpa [Addr.add] using T8.out 0 u hu
        | succ j=>simpa [Addr.add] using T8.out (j+1) u hu)
       have C8:=Lib.hid (own_kept (own_kept M5.out.cells kA (fun _ _ f=>f)) kG (fun q hq e=>own_types M5.out.cells M5.out.out (by decide) hq e))
       have m8:=Lib.hid ((M5.out.map.kept kA (fun f=>f)).kept kG (fun e=>own_map M5.out.out M5.out.map e))
       have K8:=Lib.hid (show Kept (fun _=>False) w w8 from (tt K5.out kA).trans kG (fun _ _ f=>f) (fun q hq e=>by have:=own_from M5.out.out e;have:=HB.out;omega))
       clear kA kG hown hgrow hnil s0 s1 s2 s3 s4 s5 s6 s7 hU LK c0 M5 K5
       go_wp2_with (at_builtin;refine wpList_append_own _ rfl _ _ 65 rfl b 132 j0 _ 3 40 Tryz.underlying65 hj0 hy0 hy1 hy2 rfl (by decide) _ _ _ rfl C8.out ⟨g,0,none⟩ 2 2 (cellsOfS m) rfl rfl N8.out ?qa ?qb ?qc ?qd ?_)
       case qa=>intro u hu;simp [cellsOfS] at hu;rcases hu with rfl | rfl | rfl | rfl | rfl | rfl <;> rfl
       case qb=>unfold maxLen;have:=OI.out;omega
       case qc=>have:=OI.out;omega
       case qd=>have:=K8.out.size;have:=HB.out;omega
       intro v'' w9 hown hgrow hnil
       obtain ⟨a9,cap9,rfl⟩:=own_slice hown
       have kG:=grown_kept hgrow
       have C9:=Lib.hid hown
       have O9:=Lib.hid (own_kept O8.out kG (fun q hq e=>own_types O8.out C8.out (by decide) hq e))
       have m9:=Lib.hid (m8.out.kept kG (fun e=>own_map C8.out m8.out e))
       have K9:=Lib.hid (show Kept (fun _=>False) w w9 from K8.out.trans kG (fun _ _ f=>f) (fun q hq e=>by have:=own_from C8.out e;have:=HB.out;omega))
       clear kG hown hgrow hnil
       go_wp2
       go_roundg (n - i - 1)
       case measure=>have:=JI.out;omega
       case rel=>
        have e:=TT.out
        rw [← DS.out,takeR,LT.out,show keyS m=kk from KK.out,SN.out,show old kk=false from by rw [← HO.out];simp [GK.out,DK.out]] at e
        simp only [Bool.or_self] at e
        have l1:(O++[m]).length=O.length+1:=by simp
        have l2:cellsS (O++[m])=cellsS O++m.cells:=by rw [cellsS_append];simp [cellsS]
        have l3:cellsT (O++[m])=cellsT O++cellsOfS m:=by rw [cellsT_append];simp [cellsT]
        have l4:2 * (O++[m]).length=2 * O.length+2:=by rw [l1];omega
        exact ⟨i+1,O++[m],K++[kk],by have:=JI.out;omega,by go_num,by have:=OI.out;omega,K9.out,m9.out,by rw [l1,l2];exact O9.out,by rw [l4,l3];exact C9.out,by rw [List.append_assoc];exact e⟩
  ·have e3 : ¬ (i : Int) < (n : Int) := by omega
   go_wp2
   go_ret2
   have hin:i=n:=by have:=JI.out;omega
   have e:T=O:=by
    have h:=TT.out
    rw [hin,← HN.out,List.drop_length] at h
    rw [← h]
    simp [takeR]
   rw [e]
   exact ⟨_,_,rfl,OO.out,OC.out,KW.out⟩
end
end Go.Proofs.YthknocapablpaaaGreatDoor
namespace Go.Proofs.YthknocapablpaaaGreatDoor.Rf
/- Spans by trace and ID: plain laws. -/
section
open Go.RowKit
def keyOf (m:Spn):Int × Int:=(m.tr,m.id)
def keyLt (x y:Spn):Prop:=x.tr<y.tr∨x.tr=y.tr∧x.id<y.id
instance (x y:Spn):Decidable (keyLt x y):=by unfold keyLt;infer_instance
def liveF (now:Int)(L:List Spn):List Spn:=L.filter (fun m=>!lateB m.st now)
def StrictS (L:List Spn):Prop:=L.Pairwise keyLt
theorem lt_asymm {x y:Spn}(h1:keyLt x y)(h2:keyLt y x):False:=by unfold keyLt at *;omega
theorem live_take (now:Int)(R:List Spn){i:Nat}{x:Spn}(h:R[i]? = some x):liveF now (R.take (i+1))=liveF now (R.take i)++liveF now [x]:=by
 rw [List.take_add_one,h]
 simp [liveF]
theorem live_len (now:Int)(R:List Spn):(liveF now R).length≤R.length:=List.length_filter_le _ _
theorem keptFF {a b c:World}(h:Kept (fun _=>False) a b)(k:Kept (fun _=>False) b c):Kept (fun _=>False) a c:=h.trans k (fun _ _ f=>f) (fun _ _ f=>f)
end
/- Appending a stretch of a list that may be nil. -/
section
set_option maxRecDepth 100000
open Go.RowKit

/-- What is appended: so many elements that lie somewhere, or none of a nil slice. -/
def Src (w:World)(x:Value)(m:Nat)(news:List Value):Prop:=∃ xa c,x = .slice xa m c∧((xa=none∧m=0∧news=[])∨∃ ad,xa=some ad∧∀ j u,news[j]? = some u→w.cell? (ad.add j)=some u)
theorem Src.kept {w w':World}{x:Value}{m:Nat}{news:List Value}(h:Src w x m news)(K:Kept (fun _=>False) w w'):Src w' x m news:=by
 obtain ⟨xa,c,e,h⟩:=h
 exact ⟨xa,c,e,h.imp id (fun ⟨ad,e2,hc⟩=>⟨ad,e2,fun j u hu=>K.cell (hc j u hu) (fun f=>f)⟩)⟩
theorem run_append_none {P:Program}(w:World)(t ty e:TypeId)(i:TypeInfo)(ht:P.underlying t=some (.slice e))(hi:P.info? e=some i)(b:Option Addr)(n c c':Nat)(hnc:n≤c) :
  (Builtin.append_ #[t,t] ty #[.slice b n c,.slice none 0 c']).run P w = .ok (.slice b n c) w:=by
 cases b <;> simp [Builtin.append_,underlying,sizeOf,typeInfo,ht,hi,Builtin.lenOf,hnc,Builtin.firstCells,storeCells,go_sem]
theorem step_appG {P:Program}{ops:Array Oper}{o:Oper}{a:Act}{w:World}{K:Act→World→Prop}{Q:Exit→Act→World→Prop}{E:Prop}(hgd:o.guard=none)(s x:Operand)(t:TypeId)
  (ho:o.op = .call { callee:=.builtin .append,args:=#[s,x],argTypes:=#[t,t] })
  (base:Nat)(e:TypeId)(i:TypeInfo)(z:Value)(size bytes:Nat)(ht:P.underlying t=some (.slice e))(hi:P.info? e=some i)(hz:i.zero=some z)
  (hsize:i.size=size)(hby:i.bytes=bytes)(hzs:z.cells.size=size)(hsz:0<size)
  (v:Value)(n:Nat)(xs:List Value)(hs:a.eval s=v)(hown:w.ownsRow base e size v n xs)
  (m:Nat)(news:List Value)(xv:Value)(hxv:a.eval x=xv)(hx:Src w xv m news)(hl:news.length=m * size)(h1:∀ u∈news,u.oneCell'=true)
  (h63:n+m≤maxLen)(hbytes:(n+m) * bytes≤140737488355328)(hbase:base≤w.heap.size)
  (h:∀ ao' cap' w',w'.ownsRow base e size (.slice ao' (n+m) cap') (n+m) (xs++news)→Kept (fun k=>v.ownBlock=some k) w w'→((Value.slice ao' (n+m) cap').ownBlock=v.ownBlock∨(Value.slice ao' (n+m) cap').ownBlock=some w.heap.size)→K (a.put o.dst (.slice ao' (n+m) cap')) w') :
  if Region.wanted o (yielded ops a.tmps)=true then Oper.wp P o a w K Q else E:=by
 obtain ⟨xa,c,ex,hc⟩:=hx
 rw [← hxv] at ex
 rcases hc with ⟨rfl,rfl,rfl⟩ | ⟨ad,rfl,hnews⟩
 ·rw [if_pos (by simp [Region.wanted, hgd])]
  have hf:∃ b c',v = .slice b n c'∧n≤c':=by
   rcases row_form hown with ⟨e1,e2⟩ | ⟨g,c',e1,hle,_⟩
   ·exact ⟨none,0,by rw [e1,e2],by omega⟩
   ·exact ⟨_,c',e1,hle⟩
  obtain ⟨b,c',rfl,hle⟩:=hf
  unfold Oper.wp execOp
  simp only [ho,resolve,invoke,builtin,Sem.run_bind,Sem.run_pure,Result.andThen_ok,List.map_toArray,List.map_cons,List.map_nil,hs,ex,run_append_none w t o.type e i ht hi b n c' c hle]
  exact h b c' w (by rw [List.append_nil];exact hown) (Kept.refl _ w) (.inl rfl)
 ·exact step_app hgd s x t ho base e i z size bytes ht hi hz hsize hby hzs hsz v n xs hs hown ad m c news ex hl hnews h1 h63 hbytes hbase (fun ao' cap' w' a1 a2 a3=>h ao' cap' w' a1 ((grown_kept a2).mono (fun k _ e=>e)) a3)
theorem cellsS_take:∀ (L:List Spn)(k:Nat),cellsS (L.take k)=(cellsS L).take (k * 8)
 | [],k=>by simp [cellsS]
 | x::t,0=>by simp [cellsS]
 | x::t,k+1=>by
  have h8:x.cells.length=8:=rfl
  rw [List.take_succ_cons,cellsS,cellsS,cellsS_take t k,List.take_append,h8,List.take_of_length_le (l:=x.cells) (by omega),show (k+1) * 8 - 8=k * 8 by omega]
theorem cellsS_drop:∀ (L:List Spn)(k:Nat),cellsS (L.drop k)=(cellsS L).drop (k * 8)
 | [],k=>by simp [cellsS]
 | x::t,0=>by simp [cellsS]
 | x::t,k+1=>by
  have h8:x.cells.length=8:=rfl
  rw [List.drop_succ_cons,cellsS,cellsS_drop t k,List.drop_append,h8,List.drop_of_length_le (l:=x.cells) (by omega),List.nil_append,show (k+1) * 8 - 8=k * 8 by omega]
/-- The list up to a place, and from there on. -/
theorem slices_of {w:World}{base:Nat}{la:Option Addr}{n cap:Nat}{L:List Spn}(h:w.ownsRow base 96 8 (.slice la n cap) n (cellsS L))(hl:L.length=n)(k:Nat)(hk:k≤n) :
  ∃ X1 X2,(∀ W,(Instr.slice 30 (.slice la n cap) none (some (.int .i64 (k:Int))) none).run Tryz.prog W = .ok X1 W)∧(∀ W,(Instr.slice 30 (.slice la n cap) (some (.int .i64 (k:Int))) none none).run Tryz.prog W = .ok X2 W) ∧
   Src w X1 k (cellsS (L.take k))∧Src w X2 (n - k) (cellsS (L.drop k)):=by
 have i1:(0:Int)≤(k:Int):=by omega
 have i2:(k:Int)≤(n:Int):=by omega
 rcases row_form h with ⟨e1,e2⟩ | ⟨g,c,e1,hle,_,_,hc⟩
 ·cases e1
  obtain rfl:k=0:=by omega
  obtain rfl:=List.eq_nil_of_length_eq_zero hl
  exact ⟨.slice none 0 0,.slice none 0 0,fun W=>by simp [go_sem],fun W=>by simp [go_sem],⟨none,0,rfl,.inl ⟨rfl,rfl,rfl⟩⟩,⟨none,0,rfl,.inl ⟨rfl,rfl,rfl⟩⟩⟩
 ·cases e1
  have i3:(k:Int)≤(cap:Int):=by omega
  refine ⟨.slice (some ⟨g,0,none⟩) k cap,.slice (some (if cap=k then ⟨g,0,none⟩ else ⟨g,k * 8,none⟩)) (n - k) (cap - k),fun W=>by simp [go_sem,i1,i3],fun W=>?_,⟨_,cap,rfl,.inr ⟨_,rfl,fun j u hu=>?_⟩⟩,⟨_,cap - k,rfl,.inr ⟨_,rfl,fun j u hu=>?_⟩⟩⟩
  ·by_cases hcap : cap = k
   ·obtain rfl : n = k := by omega
    subst hcap;simp [go_sem]
   ·simp [go_sem,hcap,i1,i2]
  ·rw [cellsS_take, List.getElem?_take] at hu
   split at hu
   ·rw [add_mid,Nat.zero_add];exact hc j u hu
   ·cases hu
  ·rw [cellsS_drop, List.getElem?_drop] at hu
   have hj:=(List.getElem?_eq_some_iff.1 hu).1
   rw [cellsS_length] at hj
   rw [if_neg (by omega),add_mid];exact hc _ u hu
end
/- A name by its bytes: what the library's search by runes comes to. Plain law. -/
section
set_option maxRecDepth 100000
open Go.RowKit Go.Lib

theorem decode_small {s:ByteArray}{i:Nat}(h:(s.get! i).toNat<128):Utf8.decode s i=((s.get! i).toNat,1):=by
 unfold Utf8.decode
 simp [h]
theorem decode_great {s:ByteArray}{i:Nat}(h:¬ (s.get! i).toNat<128):128≤(Utf8.decode s i).1:=by
 unfold Utf8.decode
 simp only [Nat.add_zero]
 rw [if_neg h]
 (repeat' split) <;> first | omega | (simp [Utf8.runeError];done) | (simp only [Bool.and_eq_true,decide_eq_true_eq] at *;omega)
def okAt (s:ByteArray)(i:Nat):Prop:=33≤(s.get! i).toNat∧(s.get! i).toNat≤126
theorem odd_small {c:Nat}:oddP c=false ↔ (33≤c∧c≤126):=by
 unfold oddP;simp;omega
theorem odd_decode (s:ByteArray)(i:Nat):oddP (Utf8.decode s i).1=false ↔ okAt s i:=by
 unfold okAt
 by_cases h:(s.get! i).toNat<128
 ·rw [decode_small h,odd_small]
 ·have := decode_great h
  rw [odd_small];omega
theorem idx_good {s:ByteArray}:∀ (f pos:Nat),(∀ i,pos≤i→i<s.size→okAt s i)→idxFuncFrom oddP true s f pos = -1
 | 0,pos,_=>rfl
 | f+1,pos,h=>by
  unfold idxFuncFrom
  by_cases hp:pos<s.size
  ·have h0 := h pos (Nat.le_refl _) hp
   have e:=(odd_decode s pos).2 h0
   rw [if_pos hp,e,if_neg (by simp),decode_small (by have:=h0.2;omega)]
   exact idx_good f (pos+1) (fun i hi=>h i (by omega))
  ·rw [if_neg hp]
theorem idx_bad {s:ByteArray}{i:Nat}(hi:i<s.size)(hb:¬ okAt s i):∀ (f pos:Nat),pos≤i→s.size≤pos+f→0≤idxFuncFrom oddP true s f pos
 | 0,pos,h1,h2=>by omega
 | f+1,pos,h1,h2=>by
  unfold idxFuncFrom
  rw [if_pos (by omega)]
  cases hp:oddP (Utf8.decode s pos).1 with
  | true=>simp
  | false=>
   have h0:=(odd_decode s pos).1 hp
   have hne:pos≠i:=fun e=>hb (e ▸ h0)
   rw [if_neg (by simp),decode_small (by have:=h0.2;omega)]
   exact idx_bad hi hb f (pos+1) (by omega) (by omega)
theorem name_bad {s:ByteArray}{i:Nat}(hi:i<s.size)(hb:¬ okAt s i):nameB s=false:=by
 have h:=idx_bad hi hb s.size 0 (Nat.zero_le _) (by omega)
 unfold nameB idxFunc
 simp [h]
theorem name_good {s:ByteArray}(h1:1≤s.size)(h2:s.size≤12)(h:∀ i,i<s.size→okAt s i):nameB s=true:=by
 have e:=idx_good s.size 0 (fun i _ hi=>h i hi)
 have e2:decide (s.size≠0)=true:=by rw [decide_eq_true_eq];omega
 unfold nameB idxFunc
 rw [e,e2,decide_eq_true h2]
 rfl
theorem name_short {s:ByteArray}(h:s.size=0):nameB s=false:=by unfold nameB;simp [h]
theorem name_long {s:ByteArray}(h:12<s.size):nameB s=false:=by
 unfold nameB
 have:decide (s.size≤12)=false:=by simp;omega
 rw [this];simp
end
/- Check, Expired and Less as the document has them. -/
section
set_option maxRecDepth 100000
open Go.RowKit

theorem byte_at {s:ByteArray}{i:Nat}(h:i<s.size):(s.get! i)=s[i]'h:=by
 simp [ByteArray.get!,getElem!_pos,h]
 rfl
set_option maxHeartbeats 2000000 in
theorem rname_all (s:ByteArray)(hs:s.size≤9223372036854775807)(w:World):Calls Tryz.prog 82 #[.string s] w fun e w'=>e = .returned (.bool (nameB s))∧w=w':=by
 by_cases h0:s.size=0
 ·rw [name_short h0]
  have i0:(s.size:Int)<1:=by omega
  go_enter Tryz.func82,Tryz.ntmps82
  go_wp2
  go_ret
  exact ⟨rfl,rfl⟩
 ·by_cases h12 : 12 < s.size
  ·rw [name_long h12]
   have i0:¬ (s.size:Int)<1:=by omega
   have i1:(12:Int)<(s.size:Int):=by omega
   go_enter Tryz.func82,Tryz.ntmps82
   go_wp2
   go_ret
   exact ⟨rfl,rfl⟩
  ·have i0 : ¬ (s.size : Int) < 1 := by omega
   have i1:¬ (12:Int)<(s.size:Int):=by omega
   go_enter Tryz.func82,Tryz.ntmps82
   go_wp2
   go_loopg [3] s.size (fun gh t wr=>∃ i:Nat,i+gh=s.size∧t = .int .i64 i∧wr=w∧∀ j,j<i→okAt s j)
   case atStart=>exact ⟨0,by omega,rfl,rfl,fun j h=>absurd h (Nat.not_lt_zero j)⟩
   case round=>
    obtain ⟨i,ji,rfl,rfl,hok⟩:=hrel
    have JI:=Lib.hid ji;have OK:=Lib.hid hok
    clear ji hok
    by_cases hlt:i<s.size
    ·have e := byte_at hlt
     by_cases hb:okAt s i
     ·have b1 := hb.1
      have b2:=hb.2
      rw [e] at b1 b2
      have HB:=Lib.hid hb
      have j0:(0:Int)≤(i:Int):=by omega
      have j1:(i:Int)<(s.size:Int):=by omega
      have c1:¬ ((s[i].toNat:Nat):Int)<33:=by omega
      have c2:¬ (126:Int)<((s[i].toNat:Nat):Int):=by omega
      clear e hb b1 b2
      go_wp2
      go_roundg (s.size - i - 1)
      case measure=>have:=JI.out;omega
      case rel=>
       refine ⟨i+1,by omega,by go_num,rfl,fun j hj=>?_⟩
       rcases Nat.lt_or_ge j i with h | h
       ·exact OK.out j h
       ·obtain rfl : j = i := by omega
        exact HB.out
     ·have NB := Lib.hid (name_bad hlt hb)
      unfold okAt at hb
      rw [e] at hb
      have j0:(0:Int)≤(i:Int):=by omega
      have j1:(i:Int)<(s.size:Int):=by omega
      by_cases c:((s[i].toNat:Nat):Int)<33
      ·clear e hb
       go_wp2
       go_ret
       exact ⟨by rw [NB.out];rfl,rfl⟩
      ·have c2 : (126 : Int) < ((s[i].toNat : Nat) : Int) := by omega
       clear e hb
       go_wp2
       go_ret
       exact ⟨by rw [NB.out];rfl,rfl⟩
    ·have NG := Lib.hid (name_good (s := s) (by omega) (by omega) (fun j hj => OK.out j (by omega)))
     have j1:¬ (i:Int)<(s.size:Int):=by omega
     go_wp2
     go_ret
     exact ⟨by rw [NG.out];rfl,rfl⟩
theorem between_all (n a b:Int)(w:World):Calls Tryz.prog 173 #[.int .i64 n,.int .i64 a,.int .i64 b] w fun e w'=>e = .returned (.bool (decide (a≤n) && decide (n≤b)))∧w=w':=by
 by_cases h1:a≤n
 ·by_cases h2 : n ≤ b
  ·go_enter Tryz.func173, Tryz.ntmps173
   go_wp2
   go_ret
   exact ⟨by simp [h1,h2],rfl⟩
  ·go_enter Tryz.func173, Tryz.ntmps173
   go_wp2
   go_ret
   exact ⟨by simp [h2],rfl⟩
 ·go_enter Tryz.func173, Tryz.ntmps173
  go_wp2
  go_ret
  exact ⟨by rw [decide_eq_false (by omega:¬ a≤n)];rfl,rfl⟩
theorem rexpired_all (m:Spn)(now:Int)(h0:0≤m.st)(h1:m.st≤1073741824)(h2:0≤now)(h3:now≤4294967296)(w:World):Calls Tryz.prog 57 #[aggS m,.int .i64 now] w fun e w'=>e = .returned (.bool (lateB m.st now))∧Kept (fun _=>False) w w':=by
 unfold aggS
 obtain ⟨st,hst⟩:∃ s,m.st=s:=⟨_,rfl⟩
 rw [hst] at h0 h1 ⊢
 by_cases h:st≤now
 ·go_enter Tryz.func57, Tryz.ntmps57
  go_wp2
  go_ret
  exact ⟨by unfold lateB;rfl,(Kept.refl _ w).alloc _⟩
 ·go_enter Tryz.func57, Tryz.ntmps57
  go_wp2
  go_ret
  have e:lateB st now=false:=by unfold lateB;simp;omega
  exact ⟨by rw [e];rfl,(Kept.refl _ w).alloc _⟩
theorem rless_all (x y:Spn)(w:World):Calls Tryz.prog 104 #[aggS x,aggS y] w fun e w'=>e = .returned (.bool (decide (keyLt x y)))∧Kept (fun _=>False) w w':=by
 unfold aggS
 have kk:∀ o1 o2,Kept (fun _=>False) w ((w.alloc o1).alloc o2):=fun o1 o2=>((Kept.refl _ w).alloc _).alloc _
 have KK:=Lib.hid kk
 clear kk
 by_cases h1:x.tr<y.tr
 ·have e : decide (keyLt x y) = true := by rw [decide_eq_true_eq]; unfold keyLt; omega
  rw [e];clear e
  go_enter Tryz.func104,Tryz.ntmps104
  go_wp2
  go_ret
  exact ⟨rfl,KK.out _ _⟩
 ·by_cases h2 : x.tr = y.tr
  ·by_cases h3 : x.id < y.id
   ·have e : decide (keyLt x y) = true := by rw [decide_eq_true_eq]; unfold keyLt; omega
    rw [e];clear e
    go_enter Tryz.func104,Tryz.ntmps104
    go_wp2
    go_ret
    exact ⟨rfl,KK.out _ _⟩
   ·have e : decide (keyLt x y) = false := by rw [decide_eq_false_iff_not]; unfold keyLt; omega
    rw [e];clear e
    go_enter Tryz.func104,Tryz.ntmps104
    go_wp2
    go_ret
    exact ⟨rfl,KK.out _ _⟩
  ·have h4 : (x.tr == y.tr) = false := by simp; omega
   have e:decide (keyLt x y)=false:=by rw [decide_eq_false_iff_not];unfold keyLt;omega
   rw [e];clear e
   go_enter Tryz.func104,Tryz.ntmps104
   go_wp2
   go_ret
   exact ⟨rfl,KK.out _ _⟩
def mayB (m:Spn):Bool:=okJ m 0 && (okJ m 1 && (okJ m 2 && (nameB m.se && (nameB m.ho && (okJ m 3 && (okJ m 4 && decide (m.no.size≤24)))))))
theorem mayB_eq (m:Spn):mayB m=chkB m:=by
 unfold mayB chkB
 cases okJ m 0 <;> cases okJ m 1 <;> cases okJ m 2 <;> cases okJ m 3 <;> cases okJ m 4 <;> cases nameB m.se <;> cases nameB m.ho <;> rfl
set_option maxHeartbeats 4000000 in
theorem may_all (m:Spn)(hs:m.se.size≤9223372036854775807)(hh:m.ho.size≤9223372036854775807)(hn:m.no.size≤9223372036854775807)(w:World):Calls Tryz.prog 102 #[aggS m] w fun e w'=>e = .returned (.bool (chkB m))∧Kept (fun _=>False) w w':=by
 rw [← mayB_eq]
 have kk:∀ o1,Kept (fun _=>False) w (w.alloc o1):=fun o1=>(Kept.refl _ w).alloc _
 have KK:=Lib.hid kk
 clear kk
 have C0:=Lib.hid (show ∀ W:World,Calls Tryz.prog 173 #[.int .i64 m.tr,.int .i64 1,.int .i64 2147483647] W fun e w'=>e = .returned (.bool (okJ m 0))∧W=w' from between_all m.tr 1 2147483647)
 have C1:=Lib.hid (show ∀ W:World,Calls Tryz.prog 173 #[.int .i64 m.id,.int .i64 1,.int .i64 2147483647] W fun e w'=>e = .returned (.bool (okJ m 1))∧W=w' from between_all m.id 1 2147483647)
 have C2:=Lib.hid (show ∀ W:World,Calls Tryz.prog 173 #[.int .i64 m.pa,.int .i64 0,.int .i64 2147483647] W fun e w'=>e = .returned (.bool (okJ m 2))∧W=w' from between_all m.pa 0 2147483647)
 have C3:=Lib.hid (show ∀ W:World,Calls Tryz.prog 82 #[.string m.se] W fun e w'=>e = .returned (.bool (nameB m.se))∧W=w' from rname_all m.se hs)
 have C4:=Lib.hid (show ∀ W:World,Calls Tryz.prog 82 #[.string m.ho] W fun e w'=>e = .returned (.bool (nameB m.ho))∧W=w' from rname_all m.ho hh)
 have C5:=Lib.hid (show ∀ W:World,Calls Tryz.prog 173 #[.int .i64 m.st,.int .i64 0,.int .i64 1073741824] W fun e w'=>e = .returned (.bool (okJ m 3))∧W=w' from between_all m.st 0 1073741824)
 have C6:=Lib.hid (show ∀ W:World,Calls Tryz.prog 173 #[.int .i64 m.du,.int .i64 0,.int .i64 1073741824] W fun e w'=>e = .returned (.bool (okJ m 4))∧W=w' from between_all m.du 0 1073741824)
 unfold aggS mayB
 obtain ⟨b0,h0⟩:∃ c,okJ m 0=c:=⟨_,rfl⟩
 rw [h0] at C0 ⊢
 clear h0
 obtain ⟨b1,h1⟩:∃ c,okJ m 1=c:=⟨_,rfl⟩
 rw [h1] at C1 ⊢
 clear h1
 obtain ⟨b2,h2⟩:∃ c,okJ m 2=c:=⟨_,rfl⟩
 rw [h2] at C2 ⊢
 clear h2
 obtain ⟨b3,h3⟩:∃ c,nameB m.se=c:=⟨_,rfl⟩
 rw [h3] at C3 ⊢
 clear h3
 obtain ⟨b4,h4⟩:∃ c,nameB m.ho=c:=⟨_,rfl⟩
 rw [h4] at C4 ⊢
 clear h4
 obtain ⟨b5,h5⟩:∃ c,okJ m 3=c:=⟨_,rfl⟩
 rw [h5] at C5 ⊢
 clear h5
 obtain ⟨b6,h6⟩:∃ c,okJ m 4=c:=⟨_,rfl⟩
 rw [h6] at C6 ⊢
 clear h6
 go_enter Tryz.func102,Tryz.ntmps102
 go_wp2_with fail
 refine (C0.out _).mono ?_
 rintro e w0 ⟨rfl,rfl⟩
 cases b0 with
 | false=>
  go_wp2
  go_ret
  exact ⟨rfl,KK.out _⟩
 | true=>
  go_wp2_with fail
  refine (C1.out _).mono ?_
  rintro e w1 ⟨rfl,rfl⟩
  cases b1 with
  | false=>
   go_wp2
   go_ret
   exact ⟨rfl,KK.out _⟩
  | true=>
   go_wp2_with fail
   refine (C2.out _).mono ?_
   rintro e w2 ⟨rfl,rfl⟩
   cases b2 with
   | false=>
    go_wp2
    go_ret
    exact ⟨rfl,KK.out _⟩
   | true=>
    go_wp2_with fail
    refine (C3.out _).mono ?_
    rintro e w3 ⟨rfl,rfl⟩
    cases b3 with
    | false=>
     go_wp2
     go_ret
     exact ⟨rfl,KK.out _⟩
    | true=>
     go_wp2_with fail
     refine (C4.out _).mono ?_
     rintro e w4 ⟨rfl,rfl⟩
     cases b4 with
     | false=>
      go_wp2
      go_ret
      exact ⟨rfl,KK.out _⟩
     | true=>
      go_wp2_with fail
      refine (C5.out _).mono ?_
      rintro e w5 ⟨rfl,rfl⟩
      cases b5 with
      | false=>
       go_wp2
       go_ret
       exact ⟨rfl,KK.out _⟩
      | true=>
       go_wp2_with fail
       refine (C6.out _).mono ?_
       rintro e w6 ⟨rfl,rfl⟩
       cases b6 with
       | false=>
        go_wp2
        go_ret
        exact ⟨rfl,KK.out _⟩
       | true=>
        by_cases h24:(m.no.size:Int)≤24
        ·have e : decide (m.no.size ≤ 24) = true := by simp; omega
         have E:=Lib.hid e
         clear e
         go_wp2
         go_ret
         exact ⟨by rw [E.out];rfl,KK.out _⟩
        ·have e : decide (m.no.size ≤ 24) = false := by simp; omega
         have E:=Lib.hid e
         clear e
         go_wp2
         go_ret
         exact ⟨by rw [E.out];exact congrArg (fun b=>Ending.returned (.bool b)) (decide_eq_false (by omega)),KK.out _⟩
theorem rcheck_all (m:Spn)(hs:m.se.size≤9223372036854775807)(hh:m.ho.size≤9223372036854775807)(hn:m.no.size≤9223372036854775807)(w:World):Calls Tryz.prog 55 #[aggS m] w fun e w'=>e = .returned (.int .i64 (errN (chkB m)))∧Kept (fun _=>False) w w':=by
 have M:=Lib.hid (may_all m hs hh hn)
 obtain ⟨b,hb⟩:∃ c,chkB m=c:=⟨_,rfl⟩
 rw [hb] at M ⊢
 clear hb
 have K0:=Lib.hid ((Kept.refl (fun _=>False) w).alloc (.cells #[.int .i64 m.tr,.int .i64 m.id,.int .i64 m.pa,.string m.se,.string m.ho,.int .i64 m.st,.int .i64 m.du,.string m.no] 96))
 unfold aggS at M ⊢
 go_enter Tryz.func55,Tryz.ntmps55
 go_wp2_with fail
 refine (M.out _).mono ?_
 rintro e w2 ⟨rfl,k2⟩
 have K2:=Lib.hid (keptFF K0.out k2)
 clear k2
 cases b with
 | false=>
  go_wp2
  go_ret
  exact ⟨rfl,K2.out⟩
 | true=>
  go_wp2
  go_ret
  exact ⟨rfl,K2.out⟩
end
/- spoorref21.put: a span put into a list by trace and ID. -/
section
set_option maxRecDepth 100000
open Go.RowKit

theorem wpList_appG {P:Program}{ops:Array Oper}{o:Oper}{a:Act}{w:World}{rest:List Oper}{Q:Exit→Act→World→Prop}(hgd:o.guard=none)(s x:Operand)(t:TypeId)
  (ho:o.op = .call { callee:=.builtin .append,args:=#[s,x],argTypes:=#[t,t] })
  (base:Nat)(e:TypeId)(i:TypeInfo)(z:Value)(size bytes:Nat)(ht:P.underlying t=some (.slice e))(hi:P.info? e=some i)(hz:i.zero=some z)
  (hsize:i.size=size)(hby:i.bytes=bytes)(hzs:z.cells.size=size)(hsz:0<size)
  (v:Value)(n:Nat)(xs:List Value)(hs:a.eval s=v)(hown:w.ownsRow base e size v n xs)
  (m:Nat)(news:List Value)(xv:Value)(hxv:a.eval x=xv)(hx:Src w xv m news)(hl:news.length=m * size)(h1:∀ u∈news,u.oneCell'=true)
  (h63:n+m≤maxLen)(hbytes:(n+m) * bytes≤140737488355328)(hbase:base≤w.heap.size)
  (h:∀ ao' cap' w',w'.ownsRow base e size (.slice ao' (n+m) cap') (n+m) (xs++news)→Kept (fun k=>v.ownBlock=some k) w w'→((Value.slice ao' (n+m) cap').ownBlock=v.ownBlock∨(Value.slice ao' (n+m) cap').ownBlock=some w.heap.size)→wpList P ops Q rest (a.put o.dst (.slice ao' (n+m) cap')) w'):wpList P ops Q (o::rest) a w:=by
 refine wpList_plain hgd fun K hK=>?_
 have:=step_appG (ops:=ops) (E:=False) (Q:=Q) (K:=K) hgd s x t ho base e i z size bytes ht hi hz hsize hby hzs hsz v n xs hs hown m news xv hxv hx hl h1 h63 hbytes hbase (fun ao' cap' w' a1 a2 a3=>hK _ _ (h ao' cap' w' a1 a2 a3))
 rwa [if_pos (by simp [Region.wanted,hgd])] at this
theorem own_lo {w:World}{b0 b1 e size:Nat}{v:Value}{n:Nat}{xs:List Value}(h:w.ownsRow b1 e size v n xs)(hb:b0≤b1):w.ownsRow b0 e size v n xs:=by
 obtain ⟨h1,h2⟩:=h
 refine ⟨h1,?_⟩
 rcases h2 with h2 | ⟨g,cap,cur,rfl,hg,rest⟩
 ·exact .inl h2
 ·exact .inr ⟨g,cap,cur,rfl,Nat.le_trans hb hg,rest⟩
theorem stopH {p:Prop}(h:True→p):p:=h trivial
/-- How many come ahead of it. -/
def posR (s:Spn):List Spn→Nat
 | []=>0
 | m::t=>if keyLt m s then posR s t+1 else 0
def sameAt (s:Spn)(L:List Spn)(k:Nat):Prop:=∃ x,L[k]? = some x∧keyOf x=keyOf s
open Classical in
noncomputable def putR (s:Spn)(L:List Spn):List Spn:=L.take (posR s L)++[s]++L.drop (if sameAt s L (posR s L) then posR s L+1 else posR s L)
theorem pos_eq (s:Spn):∀ (L:List Spn)(k:Nat),k≤L.length→(∀ j x,j<k→L[j]? = some x→keyLt x s)→(∀ x,L[k]? = some x→¬ keyLt x s)→posR s L=k
 | [],k,h,_,_=>by simp at h;subst h;rfl
 | m::t,0,_,_,h2=>by rw [posR,if_neg (h2 m rfl)]
 | m::t,k+1,h,h1,h2=>by
  rw [posR,if_pos (h1 0 m (by omega) rfl),pos_eq s t k (by simpa using h) (fun j x hj hx=>h1 (j+1) x (by omega) (by simpa using hx)) (fun x hx=>h2 x (by simpa using hx))]
theorem put_at {s:Spn}{L:List Spn}{k:Nat}(h:posR s L=k)(hn:¬ sameAt s L k):putR s L=L.take k++[s]++L.drop k:=by unfold putR;rw [h,if_neg hn]
theorem put_same {s:Spn}{L:List Spn}{k:Nat}(h:posR s L=k)(hn:sameAt s L k):putR s L=L.take k++[s]++L.drop (k+1):=by unfold putR;rw [h,if_pos hn]
set_option maxHeartbeats 16000000 in
theorem put_all {w:World}{base:Nat}{v:Value}{L:List Spn}(s:Spn)(h:w.ownsRow base 96 8 v L.length (cellsS L))(hl:L.length≤1000000000) :
  Calls Tryz.prog 58 #[v,aggS s] w fun e w'=>∃ v',e = .returned v'∧w'.ownsRow w.heap.size 96 8 v' (putR s L).length (cellsS (putR s L))∧Kept (fun _=>False) w w':=by
 obtain ⟨i0,hi0,hz0,hz1,hz2⟩:=info_parts inf111
 obtain ⟨la,cap,rfl⟩:=own_slice h
 obtain ⟨n,hn⟩:∃ n,L.length=n:=⟨_,rfl⟩
 rw [hn] at h hl ⊢
 have HLN:=Lib.hid hn
 obtain ⟨wb0,hwb⟩:∃ q,w.heap.size=q:=⟨_,rfl⟩
 rw [hwb]
 unfold aggS
 go_enter Tryz.func58,Tryz.ntmps58
 go_wp2
 obtain ⟨wB,hwB⟩:∃ W,w.alloc (.cells #[.int .i64 s.tr,.int .i64 s.id,.int .i64 s.pa,.string s.se,.string s.ho,.int .i64 s.st,.int .i64 s.du,.string s.no] 96)=W:=⟨_,rfl⟩
 have KB:=Lib.hid (show Kept (fun _=>False) w wB by rw [← hwB];exact (Kept.refl _ w).alloc _)
 obtain ⟨sb,hsb⟩:∃ q,wb0=q:=⟨_,rfl⟩
 have SBX:=Lib.hid (show SpanAt wB sb s by rw [← hwB,← hsb,← hwb];exact SpanAt.new)
 have WBE:=Lib.hid (show wB.heap.size=wb0+1 by rw [← hwB,← hwb];exact Array.size_push _)
 have WB:=Lib.hid (fun (W:World) (K:Kept (fun _=>False) wB W)=>(show wb0+1≤W.heap.size by have:=K.size;have:=WBE.out;omega))
 have OL:=Lib.hid (own_kept h KB.out (fun _ _ f=>f))
 rw [hwB,hsb]
 clear hwB hsb h hn hwb
 go_loopg [5] (n+1) (fun gh t wr=>∃ k:Nat,k+gh=n+1∧k≤n∧t = .int .i64 k∧Kept (fun _=>False) wB wr∧∀ j x,j<k→L[j]? = some x→keyLt x s)
 case atStart=>exact ⟨0,by omega,Nat.zero_le _,rfl,Kept.refl _ _,fun j x hj=>absurd hj (Nat.not_lt_zero j)⟩
 case round=>
  obtain ⟨k,jk,jn,rfl,kr,hless⟩:=hrel
  have JK:=Lib.hid jk;have KR:=Lib.hid kr;have LS:=Lib.hid hless
  clear jk kr hless
  have k0:(0:Int)≤(k:Int):=by omega
  by_cases hkn:k<n
  ·have k1 : (k : Int) < (n : Int) := by omega
   have k2:(k:Int)≤1000000000:=by omega
   obtain ⟨x,hx⟩:∃ x,L[k]? = some x:=⟨_,List.getElem?_eq_getElem (by rw [HLN.out];exact hkn)⟩
   obtain ⟨g,rfl,hc⟩:∃ g,la=some ⟨g,0,none⟩∧∀ j u,(cellsS L)[j]? = some u→wB.cell? ⟨g,j,none⟩=some u:=by
    rcases row_form OL.out with ⟨h1,h2⟩ | ⟨g,c,h1,_,_,_,hc⟩
    ·omega
    ·cases h1;exact ⟨g,rfl,hc⟩
   have rB:=ReadsS.at (o:=0) (fun j u hu=>by rw [Nat.zero_add];exact hc j u hu) hx
   rw [Nat.zero_add] at rB
   have RB:=Lib.hid rB
   have rx:(wr.cell? ⟨g,k * 8,none⟩=some (.int .i64 x.tr)∧wr.cell? ⟨g,k * 8+1,none⟩=some (.int .i64 x.id)∧wr.cell? ⟨g,k * 8+2,none⟩=some (.int .i64 x.pa)∧wr.cell? ⟨g,k * 8+3,none⟩=some (.string x.se)∧wr.cell? ⟨g,k * 8+4,none⟩=some (.string x.ho)∧wr.cell? ⟨g,k * 8+5,none⟩=some (.int .i64 x.st)∧wr.cell? ⟨g,k * 8+6,none⟩=some (.int .i64 x.du)∧wr.cell? ⟨g,k * 8+7,none⟩=some (.string x.no)):=by
    obtain ⟨x0,x1,x2,x3,x4,x5,x6,x7⟩:=rB
    exact ⟨KR.out.cell x0 (fun f=>f),KR.out.cell x1 (fun f=>f),KR.out.cell x2 (fun f=>f),KR.out.cell x3 (fun f=>f),KR.out.cell x4 (fun f=>f),KR.out.cell x5 (fun f=>f),KR.out.cell x6 (fun f=>f),KR.out.cell x7 (fun f=>f)⟩
   have HX:=Lib.hid hx
   clear rB hc hx
   by_cases hlt:keyLt x s
   ·have LE := Lib.hid (rless_all x s)
    rw [decide_eq_true hlt] at LE
    unfold aggS at LE
    have HLT:=Lib.hid hlt
    clear hlt
    go_wp2
    refine wp_region_held_drew (S:=(fun w'=>(w'.cell? ⟨g,k * 8,none⟩=some (.int .i64 x.tr)∧w'.cell? ⟨g,k * 8+1,none⟩=some (.int .i64 x.id)∧w'.cell? ⟨g,k * 8+2,none⟩=some (.int .i64 x.pa)∧w'.cell? ⟨g,k * 8+3,none⟩=some (.string x.se)∧w'.cell? ⟨g,k * 8+4,none⟩=some (.string x.ho)∧w'.cell? ⟨g,k * 8+5,none⟩=some (.int .i64 x.st)∧w'.cell? ⟨g,k * 8+6,none⟩=some (.int .i64 x.du)∧w'.cell? ⟨g,k * 8+7,none⟩=some (.string x.no))∧SpanAt w' sb s)) (by kernel_rfl) ?_ (fun hHeld=>?_)
    ·exact ⟨rx,SBX.out.keptF KR.out.drew⟩
    refine tW 0 opAt0 hHeld ?_
    try simp only [Act.put,z2,List.set]
    refine tW 1 opAt1 hHeld ?_
    try simp only [Act.put,z2,List.set]
    refine tW 2 opAt2 hHeld ?_
    try simp only [Act.put,z2,List.set]
    refine tW 3 opAt3 hHeld ?_
    try simp only [Act.put,z2,List.set]
    refine tW 4 opAt4 hHeld ?_
    try simp only [Act.put,z2,List.set]
    refine tW 5 opAt5 hHeld ?_
    try simp only [Act.put,z2,List.set]
    refine tW 6 opAt6 hHeld ?_
    try simp only [Act.put,z2,List.set]
    refine tW 7 opAt7 hHeld ?_
    try simp only [Act.put,z2,List.set]
    refine tH (v:=?_) 8 opAt8 ?_ hHeld ?_
    case refine_2=>(intro w hSw;(try dsimp only at hSw);obtain ⟨x0,x1,x2,x3,x4,x5,x6,x7⟩:=hSw.1;clear hSw;go_simp;all_goals (with_reducible rfl))
    try simp only [Act.put,z2,List.set]
    refine tH (v:=?_) 9 opAt9 ?_ hHeld ?_
    case refine_2=>(intro w hSw;(try dsimp only at hSw);have s0:=hSw.2 0 _ rfl;have s1:=hSw.2 1 _ rfl;have s2:=hSw.2 2 _ rfl;have s3:=hSw.2 3 _ rfl;have s4:=hSw.2 4 _ rfl;have s5:=hSw.2 5 _ rfl;have s6:=hSw.2 6 _ rfl;have s7:=hSw.2 7 _ rfl;clear hSw;go_simp;all_goals (with_reducible rfl))
    try simp only [Act.put,z2,List.set]
    refine wpAnyH_ready (rs:=[10]) (by kernel_rfl) (by simp) ?_
    refine AllReadyH.cons opAt10 (fun K hK=>?_) AllReadyH.nil
    go_simp
    go_at_call 104;refine (LE.out _).mono ?_;rintro e w7 ⟨rfl,k7⟩;dsimp only
    refine hK.out _ _ ?_ (fun hHeld=>?_)
    ·exact ⟨⟨k7.cell hHeld.1.1 (fun f=>f),k7.cell hHeld.1.2.1 (fun f=>f),k7.cell hHeld.1.2.2.1 (fun f=>f),k7.cell hHeld.1.2.2.2.1 (fun f=>f),k7.cell hHeld.1.2.2.2.2.1 (fun f=>f),k7.cell hHeld.1.2.2.2.2.2.1 (fun f=>f),k7.cell hHeld.1.2.2.2.2.2.2.1 (fun f=>f),k7.cell hHeld.1.2.2.2.2.2.2.2 (fun f=>f)⟩,hHeld.2.keptF k7⟩
    clear hK K
    try simp only [Act.put,z2,List.set]
    refine tW 11 opAt11 hHeld ?_
    try simp only [Act.put,z2,List.set]
    refine wpAnyH_done (by kernel_rfl) ?_ _
    have KN:=Lib.hid (keptFF KR.out.drew k7)
    clear k7 hHeld
    go_wp2
    go_roundg (n+1 - k - 1)
    case measure=>have:=JK.out;omega
    case rel=>
     refine ⟨k+1,by have:=JK.out;omega,by omega,by go_num,KN.out,fun j y hj hy=>?_⟩
     rcases Nat.lt_or_ge j k with h | h
     ·exact LS.out j y h hy
     ·obtain rfl : j = k := by omega
      have:=HX.out
      rw [hy] at this
      cases this
      exact HLT.out
   ·have LE := Lib.hid (rless_all x s)
    rw [decide_eq_false hlt] at LE
    unfold aggS at LE
    have PO:=Lib.hid (pos_eq s L k (by rw [HLN.out];omega) LS.out (fun y hy=>by have:=HX.out;rw [hy] at this;cases this;exact hlt))
    clear hlt
    go_wp2
    refine wp_region_held_drew (S:=(fun w'=>(w'.cell? ⟨g,k * 8,none⟩=some (.int .i64 x.tr)∧w'.cell? ⟨g,k * 8+1,none⟩=some (.int .i64 x.id)∧w'.cell? ⟨g,k * 8+2,none⟩=some (.int .i64 x.pa)∧w'.cell? ⟨g,k * 8+3,none⟩=some (.string x.se)∧w'.cell? ⟨g,k * 8+4,none⟩=some (.string x.ho)∧w'.cell? ⟨g,k * 8+5,none⟩=some (.int .i64 x.st)∧w'.cell? ⟨g,k * 8+6,none⟩=some (.int .i64 x.du)∧w'.cell? ⟨g,k * 8+7,none⟩=some (.string x.no))∧SpanAt w' sb s)) (by kernel_rfl) ?_ (fun hHeld=>?_)
    ·exact ⟨rx,SBX.out.keptF KR.out.drew⟩
    refine tW 0 opAt0 hHeld ?_
    try simp only [Act.put,z2,List.set]
    refine tW 1 opAt1 hHeld ?_
    try simp only [Act.put,z2,List.set]
    refine tW 2 opAt2 hHeld ?_
    try simp only [Act.put,z2,List.set]
    refine tW 3 opAt3 hHeld ?_
    try simp only [Act.put,z2,List.set]
    refine tW 4 opAt4 hHeld ?_
    try simp only [Act.put,z2,List.set]
    refine tW 5 opAt5 hHeld ?_
    try simp only [Act.put,z2,List.set]
    refine tW 6 opAt6 hHeld ?_
    try simp only [Act.put,z2,List.set]
    refine tW 7 opAt7 hHeld ?_
    try simp only [Act.put,z2,List.set]
    refine tH (v:=?_) 8 opAt8 ?_ hHeld ?_
    case refine_2=>(intro w hSw;(try dsimp only at hSw);obtain ⟨x0,x1,x2,x3,x4,x5,x6,x7⟩:=hSw.1;clear hSw;go_simp;all_goals (with_reducible rfl))
    try simp only [Act.put,z2,List.set]
    refine tH (v:=?_) 9 opAt9 ?_ hHeld ?_
    case refine_2=>(intro w hSw;(try dsimp only at hSw);have s0:=hSw.2 0 _ rfl;have s1:=hSw.2 1 _ rfl;have s2:=hSw.2 2 _ rfl;have s3:=hSw.2 3 _ rfl;have s4:=hSw.2 4 _ rfl;have s5:=hSw.2 5 _ rfl;have s6:=hSw.2 6 _ rfl;have s7:=hSw.2 7 _ rfl;clear hSw;go_simp;all_goals (with_reducible rfl))
    try simp only [Act.put,z2,List.set]
    refine wpAnyH_ready (rs:=[10]) (by kernel_rfl) (by simp) ?_
    refine AllReadyH.cons opAt10 (fun K hK=>?_) AllReadyH.nil
    go_simp
    go_at_call 104;refine (LE.out _).mono ?_;rintro e w7 ⟨rfl,k7⟩;dsimp only
    refine hK.out _ _ ?_ (fun hHeld=>?_)
    ·exact ⟨⟨k7.cell hHeld.1.1 (fun f=>f),k7.cell hHeld.1.2.1 (fun f=>f),k7.cell hHeld.1.2.2.1 (fun f=>f),k7.cell hHeld.1.2.2.2.1 (fun f=>f),k7.cell hHeld.1.2.2.2.2.1 (fun f=>f),k7.cell hHeld.1.2.2.2.2.2.1 (fun f=>f),k7.cell hHeld.1.2.2.2.2.2.2.1 (fun f=>f),k7.cell hHeld.1.2.2.2.2.2.2.2 (fun f=>f)⟩,hHeld.2.keptF k7⟩
    clear hK K
    try simp only [Act.put,z2,List.set]
    refine tW 11 opAt11 hHeld ?_
    try simp only [Act.put,z2,List.set]
    refine wpAnyH_done (by kernel_rfl) ?_ _
    have KN:=Lib.hid (keptFF KR.out.drew k7)
    clear k7 hHeld
    have B0:=Lib.hid KN.out
    obtain ⟨X1,X2,hX1,hX2,SR1,SR2⟩:=slices_of OL.out HLN.out k (by omega)
    have HX2:=Lib.hid hX2
    have SRC1:=Lib.hid (SR1.kept B0.out)
    clear hX2 SR1 SR2
    go_wp2_with (at_builtin;refine stopH ?_)
    intro _
    refine wpList_appG rfl _ _ 30 rfl (wb0+1) 96 i0 _ 8 88 Tryz.underlying30 hi0 hz0 hz1 hz2 rfl (by decide) _ 0 [] rfl (World.ownsRow_nil _ _ _ _) k (cellsS (L.take k)) X1 rfl SRC1.out (by rw [cellsS_length,List.length_take,Nat.min_eq_left (by rw [HLN.out];omega)]) (cellsS_one _) (by unfold maxLen;omega) (by omega) (WB.out _ B0.out) ?_
    intro ao1 cap1 w1 own1 k1 hat1
    have K1:=Lib.hid (keptFF B0.out (k1.mono (fun q _ h=>by cases h)))
    rw [Nat.zero_add,List.nil_append] at own1
    have O1:=Lib.hid own1
    clear own1 k1 hat1 hX1
    have b8:=SBX.out.keptF K1.out
    have b0:=b8 0 _ rfl
    have b1:=b8 1 _ rfl
    have b2:=b8 2 _ rfl
    have b3:=b8 3 _ rfl
    have b4:=b8 4 _ rfl
    have b5:=b8 5 _ rfl
    have b6:=b8 6 _ rfl
    have b7:=b8 7 _ rfl
    clear b8
    go_wp2_with (at_builtin;refine wpList_append_own _ rfl _ _ 30 rfl (wb0+1) 96 i0 _ 8 88 Tryz.underlying30 hi0 hz0 hz1 hz2 rfl (by decide) _ _ _ rfl (own_kept O1.out ((Kept.refl (fun _=>False) w1).alloc _) (fun _ _ f=>f)) ⟨w1.heap.size,0,none⟩ 1 1 s.cells rfl rfl (World.news_of_block (heap_alloc_new w1 _)) ?qa ?qb ?qc ?qd ?_)
    case qa=>intro u hu;simp [Spn.cells] at hu;rcases hu with rfl | rfl | rfl | rfl | rfl | rfl | rfl | rfl <;> rfl
    case qb=>unfold maxLen;omega
    case qc=>omega
    case qd=>have:=WB.out _ K1.out;simp;omega
    intro v2 w2 own2 hg2 hn2
    have KZ:=Lib.hid ((((K1.out.alloc (Obj.cells #[.int .i64 s.tr,.int .i64 s.id,.int .i64 s.pa,.string s.se,.string s.ho,.int .i64 s.st,.int .i64 s.du,.string s.no] 96)):Kept (fun _=>False) wB _).grown hg2 (fun q hq hlt=>by have h1:=own_from O1.out hq;have h2:=WBE.out;omega)))
    have O2:=Lib.hid own2
    obtain ⟨ao2,cap2,rfl⟩:=own_slice own2
    clear own2 hg2 hn2 b0 b1 b2 b3 b4 b5 b6 b7
    have rz:(w2.cell? ⟨g,k * 8,none⟩=some (.int .i64 x.tr)∧w2.cell? ⟨g,k * 8+1,none⟩=some (.int .i64 x.id)∧w2.cell? ⟨g,k * 8+2,none⟩=some (.int .i64 x.pa)∧w2.cell? ⟨g,k * 8+3,none⟩=some (.string x.se)∧w2.cell? ⟨g,k * 8+4,none⟩=some (.string x.ho)∧w2.cell? ⟨g,k * 8+5,none⟩=some (.int .i64 x.st)∧w2.cell? ⟨g,k * 8+6,none⟩=some (.int .i64 x.du)∧w2.cell? ⟨g,k * 8+7,none⟩=some (.string x.no)):=by
     obtain ⟨x0,x1,x2,x3,x4,x5,x6,x7⟩:=RB.out
     exact ⟨KZ.out.cell x0 (fun f=>f),KZ.out.cell x1 (fun f=>f),KZ.out.cell x2 (fun f=>f),KZ.out.cell x3 (fun f=>f),KZ.out.cell x4 (fun f=>f),KZ.out.cell x5 (fun f=>f),KZ.out.cell x6 (fun f=>f),KZ.out.cell x7 (fun f=>f)⟩
    by_cases c1:x.tr=s.tr
    ·by_cases c2 : x.id = s.id
     ·have SA := Lib.hid (show sameAt s L k from ⟨x, HX.out, by unfold keyOf; rw [c1, c2]⟩)
      have d1:(x.tr == s.tr)=true:=by simp [c1]
      have d2:(x.id == s.id)=true:=by simp [c2]
      go_wp2
      refine wp_region_held_drew (S:=(fun w'=>(w'.cell? ⟨g,k * 8,none⟩=some (.int .i64 x.tr)∧w'.cell? ⟨g,k * 8+1,none⟩=some (.int .i64 x.id)∧w'.cell? ⟨g,k * 8+2,none⟩=some (.int .i64 x.pa)∧w'.cell? ⟨g,k * 8+3,none⟩=some (.string x.se)∧w'.cell? ⟨g,k * 8+4,none⟩=some (.string x.ho)∧w'.cell? ⟨g,k * 8+5,none⟩=some (.int .i64 x.st)∧w'.cell? ⟨g,k * 8+6,none⟩=some (.int .i64 x.du)∧w'.cell? ⟨g,k * 8+7,none⟩=some (.string x.no))∧SpanAt w' sb s)) (by kernel_rfl) ?_ (fun hHeld=>?_)
      ·exact ⟨rz,SBX.out.keptF KZ.out.drew⟩
      refine tW 0 opAt0 hHeld ?_
      try simp only [Act.put,z2,List.set]
      refine tW 1 opAt1 hHeld ?_
      try simp only [Act.put,z2,List.set]
      refine tW 2 opAt2 hHeld ?_
      try simp only [Act.put,z2,List.set]
      refine tW 3 opAt3 hHeld ?_
      try simp only [Act.put,z2,List.set]
      refine tW 4 opAt4 hHeld ?_
      try simp only [Act.put,z2,List.set]
      refine tW 5 opAt5 hHeld ?_
      try simp only [Act.put,z2,List.set]
      refine tW 6 opAt6 hHeld ?_
      try simp only [Act.put,z2,List.set]
      refine tW 7 opAt7 hHeld ?_
      try simp only [Act.put,z2,List.set]
      refine tW 8 opAt8 hHeld ?_
      try simp only [Act.put,z2,List.set]
      refine tH (v:=?_) 9 opAt9 ?_ hHeld ?_
      case refine_2=>(intro w hSw;(try dsimp only at hSw);have x0:=hSw.1.1;clear hSw;go_simp;all_goals (with_reducible rfl))
      try simp only [Act.put,z2,List.set]
      refine tW 10 opAt10 hHeld ?_
      try simp only [Act.put,z2,List.set]
      refine tH (v:=?_) 11 opAt11 ?_ hHeld ?_
      case refine_2=>(intro w hSw;(try dsimp only at hSw);have s0:=hSw.2 0 _ rfl;clear hSw;go_simp;all_goals (with_reducible rfl))
      try simp only [Act.put,z2,List.set]
      refine tW 12 opAt12 hHeld ?_
      try simp only [Act.put,z2,List.set]
      refine tW 13 opAt13 hHeld ?_
      try simp only [Act.put,z2,List.set]
      refine tW 14 opAt14 hHeld ?_
      try simp only [Act.put,z2,List.set]
      refine tW 15 opAt15 hHeld ?_
      try simp only [Act.put,z2,List.set]
      refine tW 16 opAt16 hHeld ?_
      try simp only [Act.put,z2,List.set]
      refine tW 17 opAt17 hHeld ?_
      try simp only [Act.put,z2,List.set]
      refine tW 18 opAt18 hHeld ?_
      try simp only [Act.put,z2,List.set]
      refine tH (v:=?_) 19 opAt19 ?_ hHeld ?_
      case refine_2=>(intro w hSw;(try dsimp only at hSw);have x1:=hSw.1.2.1;clear hSw;go_simp;all_goals (with_reducible rfl))
      try simp only [Act.put,z2,List.set]
      refine tW 20 opAt20 hHeld ?_
      try simp only [Act.put,z2,List.set]
      refine tH (v:=?_) 21 opAt21 ?_ hHeld ?_
      case refine_2=>(intro w hSw;(try dsimp only at hSw);have s1:=hSw.2 1 _ rfl;clear hSw;go_simp;all_goals (with_reducible rfl))
      try simp only [Act.put,z2,List.set]
      refine tW 22 opAt22 hHeld ?_
      try simp only [Act.put,z2,List.set]
      refine tW 23 opAt23 hHeld ?_
      try simp only [Act.put,z2,List.set]
      refine wpAnyH_done (by kernel_rfl) ?_ _
      clear hHeld d1 d2
      obtain ⟨X3,X4,hX3,hX4,SR3,SR4⟩:=slices_of OL.out HLN.out (k+1) (by omega)

      have SRC4:=Lib.hid (SR4.kept (KZ.out.drew))
      clear hX3 SR3
      rw [show (((k+1:Nat):Int))=(k:Int)+1 by omega] at hX4
      go_wp2_with (at_builtin;refine stopH ?_)
      intro _
      refine wpList_appG rfl _ _ 30 rfl (wb0+1) 96 i0 _ 8 88 Tryz.underlying30 hi0 hz0 hz1 hz2 rfl (by decide) _ (k+1) _ rfl (own_kept O2.out ((Kept.refl (fun _=>False) w2).drew) (fun _ _ f=>f)) (n - (k+1)) (cellsS (L.drop (k+1))) X4 rfl SRC4.out (by rw [cellsS_length,List.length_drop,HLN.out]) (cellsS_one _) (by unfold maxLen;omega) (by omega) (WB.out _ KZ.out.drew) ?_
      intro ao4 cap4 w4 own4 k4 hat4
      have O4:=Lib.hid own4
      have K4:=Lib.hid (KZ.out.drew.trans k4 (fun _ _ f=>f) (fun q hq h=>by have h1:=own_from O2.out h;have h2:=WBE.out;omega):Kept (fun _=>False) wB w4)
      clear own4 k4 hat4 hX4
      go_wp2
      go_ret
      have e:putR s L=L.take k++[s]++L.drop (k+1):=by exact put_same PO.out SA.out
      have el:(putR s L).length=k+1+(n - (k+1)):=by rw [e,List.length_append,List.length_append,List.length_take,List.length_drop,HLN.out,Nat.min_eq_left (by omega)];rfl
      exact ⟨_,rfl,by rw [el,e,cellsS_append,cellsS_append,show cellsS [s]=s.cells by simp [cellsS]];exact own_lo O4.out (Nat.le_succ wb0),keptFF KB.out K4.out⟩
     ·have SA:=Lib.hid (show ¬ sameAt s L k from fun ⟨y,hy,e⟩=>by
       have:=HX.out
       rw [hy] at this
       cases this
       unfold keyOf at e
       exact c2 (Prod.mk.inj e).2)
      have d1:(x.tr == s.tr)=true:=by simp [c1]
      have d2:(x.id == s.id)=false:=by simp [c2]
      go_wp2
      refine wp_region_held_drew (S:=(fun w'=>(w'.cell? ⟨g,k * 8,none⟩=some (.int .i64 x.tr)∧w'.cell? ⟨g,k * 8+1,none⟩=some (.int .i64 x.id)∧w'.cell? ⟨g,k * 8+2,none⟩=some (.int .i64 x.pa)∧w'.cell? ⟨g,k * 8+3,none⟩=some (.string x.se)∧w'.cell? ⟨g,k * 8+4,none⟩=some (.string x.ho)∧w'.cell? ⟨g,k * 8+5,none⟩=some (.int .i64 x.st)∧w'.cell? ⟨g,k * 8+6,none⟩=some (.int .i64 x.du)∧w'.cell? ⟨g,k * 8+7,none⟩=some (.string x.no))∧SpanAt w' sb s)) (by kernel_rfl) ?_ (fun hHeld=>?_)
      ·exact ⟨rz,SBX.out.keptF KZ.out.drew⟩
      refine tW 0 opAt0 hHeld ?_
      try simp only [Act.put,z2,List.set]
      refine tW 1 opAt1 hHeld ?_
      try simp only [Act.put,z2,List.set]
      refine tW 2 opAt2 hHeld ?_
      try simp only [Act.put,z2,List.set]
      refine tW 3 opAt3 hHeld ?_
      try simp only [Act.put,z2,List.set]
      refine tW 4 opAt4 hHeld ?_
      try simp only [Act.put,z2,List.set]
      refine tW 5 opAt5 hHeld ?_
      try simp only [Act.put,z2,List.set]
      refine tW 6 opAt6 hHeld ?_
      try simp only [Act.put,z2,List.set]
      refine tW 7 opAt7 hHeld ?_
      try simp only [Act.put,z2,List.set]
      refine tW 8 opAt8 hHeld ?_
      try simp only [Act.put,z2,List.set]
      refine tH (v:=?_) 9 opAt9 ?_ hHeld ?_
      case refine_2=>(intro w hSw;(try dsimp only at hSw);have x0:=hSw.1.1;clear hSw;go_simp;all_goals (with_reducible rfl))
      try simp only [Act.put,z2,List.set]
      refine tW 10 opAt10 hHeld ?_
      try simp only [Act.put,z2,List.set]
      refine tH (v:=?_) 11 opAt11 ?_ hHeld ?_
      case refine_2=>(intro w hSw;(try dsimp only at hSw);have s0:=hSw.2 0 _ rfl;clear hSw;go_simp;all_goals (with_reducible rfl))
      try simp only [Act.put,z2,List.set]
      refine tW 12 opAt12 hHeld ?_
      try simp only [Act.put,z2,List.set]
      refine tW 13 opAt13 hHeld ?_
      try simp only [Act.put,z2,List.set]
      refine tW 14 opAt14 hHeld ?_
      try simp only [Act.put,z2,List.set]
      refine tW 15 opAt15 hHeld ?_
      try simp only [Act.put,z2,List.set]
      refine tW 16 opAt16 hHeld ?_
      try simp only [Act.put,z2,List.set]
      refine tW 17 opAt17 hHeld ?_
      try simp only [Act.put,z2,List.set]
      refine tW 18 opAt18 hHeld ?_
      try simp only [Act.put,z2,List.set]
      refine tH (v:=?_) 19 opAt19 ?_ hHeld ?_
      case refine_2=>(intro w hSw;(try dsimp only at hSw);have x1:=hSw.1.2.1;clear hSw;go_simp;all_goals (with_reducible rfl))
      try simp only [Act.put,z2,List.set]
      refine tW 20 opAt20 hHeld ?_
      try simp only [Act.put,z2,List.set]
      refine tH (v:=?_) 21 opAt21 ?_ hHeld ?_
      case refine_2=>(intro w hSw;(try dsimp only at hSw);have s1:=hSw.2 1 _ rfl;clear hSw;go_simp;all_goals (with_reducible rfl))
      try simp only [Act.put,z2,List.set]
      refine tW 22 opAt22 hHeld ?_
      try simp only [Act.put,z2,List.set]
      refine tW 23 opAt23 hHeld ?_
      try simp only [Act.put,z2,List.set]
      refine wpAnyH_done (by kernel_rfl) ?_ _
      clear hHeld d1 d2
      obtain ⟨X3,X4,hX3,hX4,SR3,SR4⟩:=slices_of OL.out HLN.out (k) (by omega)

      have SRC4:=Lib.hid (SR4.kept (KZ.out.drew))
      clear hX3 SR3
      have HX4:=Lib.hid (show True from trivial)
      go_wp2_with (at_builtin;refine stopH ?_)
      intro _
      refine wpList_appG rfl _ _ 30 rfl (wb0+1) 96 i0 _ 8 88 Tryz.underlying30 hi0 hz0 hz1 hz2 rfl (by decide) _ (k+1) _ rfl (own_kept O2.out ((Kept.refl (fun _=>False) w2).drew) (fun _ _ f=>f)) (n - (k)) (cellsS (L.drop (k))) X4 rfl SRC4.out (by rw [cellsS_length,List.length_drop,HLN.out]) (cellsS_one _) (by unfold maxLen;omega) (by omega) (WB.out _ KZ.out.drew) ?_
      intro ao4 cap4 w4 own4 k4 hat4
      have O4:=Lib.hid own4
      have K4:=Lib.hid (KZ.out.drew.trans k4 (fun _ _ f=>f) (fun q hq h=>by have h1:=own_from O2.out h;have h2:=WBE.out;omega):Kept (fun _=>False) wB w4)
      clear own4 k4 hat4 hX4
      go_wp2
      go_ret
      have e:putR s L=L.take k++[s]++L.drop (k):=by exact put_at PO.out SA.out
      have el:(putR s L).length=k+1+(n - (k)):=by rw [e,List.length_append,List.length_append,List.length_take,List.length_drop,HLN.out,Nat.min_eq_left (by omega)];rfl
      exact ⟨_,rfl,by rw [el,e,cellsS_append,cellsS_append,show cellsS [s]=s.cells by simp [cellsS]];exact own_lo O4.out (Nat.le_succ wb0),keptFF KB.out K4.out⟩
    ·have SA:=Lib.hid (show ¬ sameAt s L k from fun ⟨y,hy,e⟩=>by
      have:=HX.out
      rw [hy] at this
      cases this
      unfold keyOf at e
      exact c1 (Prod.mk.inj e).1)
     have d1:(x.tr == s.tr)=false:=by simp [c1]
     go_wp2
     refine wp_region_held_drew (S:=(fun w'=>(w'.cell? ⟨g,k * 8,none⟩=some (.int .i64 x.tr)∧w'.cell? ⟨g,k * 8+1,none⟩=some (.int .i64 x.id)∧w'.cell? ⟨g,k * 8+2,none⟩=some (.int .i64 x.pa)∧w'.cell? ⟨g,k * 8+3,none⟩=some (.string x.se)∧w'.cell? ⟨g,k * 8+4,none⟩=some (.string x.ho)∧w'.cell? ⟨g,k * 8+5,none⟩=some (.int .i64 x.st)∧w'.cell? ⟨g,k * 8+6,none⟩=some (.int .i64 x.du)∧w'.cell? ⟨g,k * 8+7,none⟩=some (.string x.no))∧SpanAt w' sb s)) (by kernel_rfl) ?_ (fun hHeld=>?_)
     ·exact ⟨rz,SBX.out.keptF KZ.out.drew⟩
     refine tW 0 opAt0 hHeld ?_
     try simp only [Act.put,z2,List.set]
     refine tW 1 opAt1 hHeld ?_
     try simp only [Act.put,z2,List.set]
     refine tW 2 opAt2 hHeld ?_
     try simp only [Act.put,z2,List.set]
     refine tW 3 opAt3 hHeld ?_
     try simp only [Act.put,z2,List.set]
     refine tW 4 opAt4 hHeld ?_
     try simp only [Act.put,z2,List.set]
     refine tW 5 opAt5 hHeld ?_
     try simp only [Act.put,z2,List.set]
     refine tW 6 opAt6 hHeld ?_
     try simp only [Act.put,z2,List.set]
     refine tW 7 opAt7 hHeld ?_
     try simp only [Act.put,z2,List.set]
     refine tW 8 opAt8 hHeld ?_
     try simp only [Act.put,z2,List.set]
     refine tH (v:=?_) 9 opAt9 ?_ hHeld ?_
     case refine_2=>(intro w hSw;(try dsimp only at hSw);have x0:=hSw.1.1;clear hSw;go_simp;all_goals (with_reducible rfl))
     try simp only [Act.put,z2,List.set]
     refine tW 10 opAt10 hHeld ?_
     try simp only [Act.put,z2,List.set]
     refine tH (v:=?_) 11 opAt11 ?_ hHeld ?_
     case refine_2=>(intro w hSw;(try dsimp only at hSw);have s0:=hSw.2 0 _ rfl;clear hSw;go_simp;all_goals (with_reducible rfl))
     try simp only [Act.put,z2,List.set]
     refine tW 12 opAt12 hHeld ?_
     try simp only [Act.put,z2,List.set]
     refine tW 13 opAt13 hHeld ?_
     try simp only [Act.put,z2,List.set]
     refine tW 14 opAt14 hHeld ?_
     try simp only [Act.put,z2,List.set]
     refine tU 15 opAt15 hHeld ?_
     try simp only [Act.put,z2,List.set]
     refine tU 16 opAt16 hHeld ?_
     try simp only [Act.put,z2,List.set]
     refine tU 17 opAt17 hHeld ?_
     try simp only [Act.put,z2,List.set]
     refine tU 18 opAt18 hHeld ?_
     try simp only [Act.put,z2,List.set]
     refine tU 19 opAt19 hHeld ?_
     try simp only [Act.put,z2,List.set]
     refine tU 20 opAt20 hHeld ?_
     try simp only [Act.put,z2,List.set]
     refine tU 21 opAt21 hHeld ?_
     try simp only [Act.put,z2,List.set]
     refine tU 22 opAt22 hHeld ?_
     try simp only [Act.put,z2,List.set]
     refine tW 23 opAt23 hHeld ?_
     try simp only [Act.put,z2,List.set]
     refine wpAnyH_done (by kernel_rfl) ?_ _
     clear hHeld d1
     obtain ⟨X3,X4,hX3,hX4,SR3,SR4⟩:=slices_of OL.out HLN.out (k) (by omega)

     have SRC4:=Lib.hid (SR4.kept (KZ.out.drew))
     clear hX3 SR3
     have HX4:=Lib.hid (show True from trivial)
     go_wp2_with (at_builtin;refine stopH ?_)
     intro _
     refine wpList_appG rfl _ _ 30 rfl (wb0+1) 96 i0 _ 8 88 Tryz.underlying30 hi0 hz0 hz1 hz2 rfl (by decide) _ (k+1) _ rfl (own_kept O2.out ((Kept.refl (fun _=>False) w2).drew) (fun _ _ f=>f)) (n - (k)) (cellsS (L.drop (k))) X4 rfl SRC4.out (by rw [cellsS_length,List.length_drop,HLN.out]) (cellsS_one _) (by unfold maxLen;omega) (by omega) (WB.out _ KZ.out.drew) ?_
     intro ao4 cap4 w4 own4 k4 hat4
     have O4:=Lib.hid own4
     have K4:=Lib.hid (KZ.out.drew.trans k4 (fun _ _ f=>f) (fun q hq h=>by have h1:=own_from O2.out h;have h2:=WBE.out;omega):Kept (fun _=>False) wB w4)
     clear own4 k4 hat4 hX4
     go_wp2
     go_ret
     have e:putR s L=L.take k++[s]++L.drop (k):=by exact put_at PO.out SA.out
     have el:(putR s L).length=k+1+(n - (k)):=by rw [e,List.length_append,List.length_append,List.length_take,List.length_drop,HLN.out,Nat.min_eq_left (by omega)];rfl
     exact ⟨_,rfl,by rw [el,e,cellsS_append,cellsS_append,show cellsS [s]=s.cells by simp [cellsS]];exact own_lo O4.out (Nat.le_succ wb0),keptFF KB.out K4.out⟩
  ·have k1 : ¬ (k : Int) < (n : Int) := by omega
   have hkn2:k=n:=by omega
   have HKN:=Lib.hid hkn2
   have E0:=Lib.hid (show n - k=0 by omega)
   clear hkn2
   have PO:=Lib.hid (pos_eq s L k (by rw [HLN.out];omega) LS.out (fun y hy=>by have:=(List.getElem?_eq_some_iff.1 hy).1;rw [HLN.out] at this;omega))
   have SA:=Lib.hid (show ¬ sameAt s L k from fun ⟨y,hy,e⟩=>by have:=(List.getElem?_eq_some_iff.1 hy).1;rw [HLN.out] at this;omega)
   go_wp2
   refine wp_region_held_drew (S:=(fun w'=>SpanAt w' sb s)) (by kernel_rfl) ?_ (fun hHeld=>?_)
   ·exact SBX.out.keptF KR.out.drew
   refine tW 0 opAt0 hHeld ?_
   try simp only [Act.put,z2,List.set]
   refine tW 1 opAt1 hHeld ?_
   try simp only [Act.put,z2,List.set]
   refine tW 2 opAt2 hHeld ?_
   try simp only [Act.put,z2,List.set]
   refine tW 3 opAt3 hHeld ?_
   try simp only [Act.put,z2,List.set]
   refine tW 4 opAt4 hHeld ?_
   try simp only [Act.put,z2,List.set]
   refine tU 5 opAt5 hHeld ?_
   try simp only [Act.put,z2,List.set]
   refine tU 6 opAt6 hHeld ?_
   try simp only [Act.put,z2,List.set]
   refine tU 7 opAt7 hHeld ?_
   try simp only [Act.put,z2,List.set]
   refine tU 8 opAt8 hHeld ?_
   try simp only [Act.put,z2,List.set]
   refine tU 9 opAt9 hHeld ?_
   try simp only [Act.put,z2,List.set]
   refine tU 10 opAt10 hHeld ?_
   try simp only [Act.put,z2,List.set]
   refine tW 11 opAt11 hHeld ?_
   try simp only [Act.put,z2,List.set]
   refine wpAnyH_done (by kernel_rfl) ?_ _
   have KN:=Lib.hid KR.out.drew
   clear hHeld
   have B0:=Lib.hid KN.out
   obtain ⟨X1,X2,hX1,hX2,SR1,SR2⟩:=slices_of OL.out HLN.out k (by omega)
   have HX2:=Lib.hid hX2
   have SRC1:=Lib.hid (SR1.kept B0.out)
   clear hX2 SR1 SR2
   go_wp2_with (at_builtin;refine stopH ?_)
   intro _
   refine wpList_appG rfl _ _ 30 rfl (wb0+1) 96 i0 _ 8 88 Tryz.underlying30 hi0 hz0 hz1 hz2 rfl (by decide) _ 0 [] rfl (World.ownsRow_nil _ _ _ _) k (cellsS (L.take k)) X1 rfl SRC1.out (by rw [cellsS_length,List.length_take,Nat.min_eq_left (by rw [HLN.out];omega)]) (cellsS_one _) (by unfold maxLen;omega) (by omega) (WB.out _ B0.out) ?_
   intro ao1 cap1 w1 own1 k1 hat1
   have K1:=Lib.hid (keptFF B0.out (k1.mono (fun q _ h=>by cases h)))
   rw [Nat.zero_add,List.nil_append] at own1
   have O1:=Lib.hid own1
   clear own1 k1 hat1 hX1
   have b8:=SBX.out.keptF K1.out
   have b0:=b8 0 _ rfl
   have b1:=b8 1 _ rfl
   have b2:=b8 2 _ rfl
   have b3:=b8 3 _ rfl
   have b4:=b8 4 _ rfl
   have b5:=b8 5 _ rfl
   have b6:=b8 6 _ rfl
   have b7:=b8 7 _ rfl
   clear b8
   go_wp2_with (at_builtin;refine wpList_append_own _ rfl _ _ 30 rfl (wb0+1) 96 i0 _ 8 88 Tryz.underlying30 hi0 hz0 hz1 hz2 rfl (by decide) _ _ _ rfl (own_kept O1.out ((Kept.refl (fun _=>False) w1).alloc _) (fun _ _ f=>f)) ⟨w1.heap.size,0,none⟩ 1 1 s.cells rfl rfl (World.news_of_block (heap_alloc_new w1 _)) ?qa ?qb ?qc ?qd ?_)
   case qa=>intro u hu;simp [Spn.cells] at hu;rcases hu with rfl | rfl | rfl | rfl | rfl | rfl | rfl | rfl <;> rfl
   case qb=>unfold maxLen;omega
   case qc=>omega
   case qd=>have:=WB.out _ K1.out;simp;omega
   intro v2 w2 own2 hg2 hn2
   have KZ:=Lib.hid ((((K1.out.alloc (Obj.cells #[.int .i64 s.tr,.int .i64 s.id,.int .i64 s.pa,.string s.se,.string s.ho,.int .i64 s.st,.int .i64 s.du,.string s.no] 96)):Kept (fun _=>False) wB _).grown hg2 (fun q hq hlt=>by have h1:=own_from O1.out hq;have h2:=WBE.out;omega)))
   have O2:=Lib.hid own2
   obtain ⟨ao2,cap2,rfl⟩:=own_slice own2
   clear own2 hg2 hn2 b0 b1 b2 b3 b4 b5 b6 b7
   go_wp2
   refine wp_region_held_drew (S:=(fun w'=>SpanAt w' sb s)) (by kernel_rfl) ?_ (fun hHeld=>?_)
   ·exact SBX.out.keptF KZ.out.drew
   refine tW 0 opAt0 hHeld ?_
   try simp only [Act.put,z2,List.set]
   refine tW 1 opAt1 hHeld ?_
   try simp only [Act.put,z2,List.set]
   refine tW 2 opAt2 hHeld ?_
   try simp only [Act.put,z2,List.set]
   refine tW 3 opAt3 hHeld ?_
   try simp only [Act.put,z2,List.set]
   refine tW 4 opAt4 hHeld ?_
   try simp only [Act.put,z2,List.set]
   refine tU 5 opAt5 hHeld ?_
   try simp only [Act.put,z2,List.set]
   refine tU 6 opAt6 hHeld ?_
   try simp only [Act.put,z2,List.set]
   refine tU 7 opAt7 hHeld ?_
   try simp only [Act.put,z2,List.set]
   refine tU 8 opAt8 hHeld ?_
   try simp only [Act.put,z2,List.set]
   refine tU 9 opAt9 hHeld ?_
   try simp only [Act.put,z2,List.set]
   refine tU 10 opAt10 hHeld ?_
   try simp only [Act.put,z2,List.set]
   refine tU 11 opAt11 hHeld ?_
   try simp only [Act.put,z2,List.set]
   refine tU 12 opAt12 hHeld ?_
   try simp only [Act.put,z2,List.set]
   refine tW 13 opAt13 hHeld ?_
   try simp only [Act.put,z2,List.set]
   refine tW 14 opAt14 hHeld ?_
   try simp only [Act.put,z2,List.set]
   refine tU 15 opAt15 hHeld ?_
   try simp only [Act.put,z2,List.set]
   refine tU 16 opAt16 hHeld ?_
   try simp only [Act.put,z2,List.set]
   refine tU 17 opAt17 hHeld ?_
   try simp only [Act.put,z2,List.set]
   refine tU 18 opAt18 hHeld ?_
   try simp only [Act.put,z2,List.set]
   refine tU 19 opAt19 hHeld ?_
   try simp only [Act.put,z2,List.set]
   refine tU 20 opAt20 hHeld ?_
   try simp only [Act.put,z2,List.set]
   refine tU 21 opAt21 hHeld ?_
   try simp only [Act.put,z2,List.set]
   refine tU 22 opAt22 hHeld ?_
   try simp only [Act.put,z2,List.set]
   refine tW 23 opAt23 hHeld ?_
   try simp only [Act.put,z2,List.set]
   refine wpAnyH_done (by kernel_rfl) ?_ _
   clear hHeld
   obtain ⟨X3,X4,hX3,hX4,SR3,SR4⟩:=slices_of OL.out HLN.out (k) (by omega)
   rw [E0.out] at SR4
   have SRC4:=Lib.hid (SR4.kept (KZ.out.drew))
   clear hX3 SR3
   have HX4:=Lib.hid (show True from trivial)
   go_wp2_with (at_builtin;refine stopH ?_)
   intro _
   refine wpList_appG rfl _ _ 30 rfl (wb0+1) 96 i0 _ 8 88 Tryz.underlying30 hi0 hz0 hz1 hz2 rfl (by decide) _ (k+1) _ rfl (own_kept O2.out ((Kept.refl (fun _=>False) w2).drew) (fun _ _ f=>f)) (0) (cellsS (L.drop (k))) X4 rfl SRC4.out (by rw [cellsS_length,List.length_drop,HLN.out];rw [E0.out]) (cellsS_one _) (by unfold maxLen;omega) (by omega) (WB.out _ KZ.out.drew) ?_
   intro ao4 cap4 w4 own4 k4 hat4
   have O4:=Lib.hid own4
   have K4:=Lib.hid (KZ.out.drew.trans k4 (fun _ _ f=>f) (fun q hq h=>by have h1:=own_from O2.out h;have h2:=WBE.out;omega):Kept (fun _=>False) wB w4)
   clear own4 k4 hat4 hX4
   go_wp2
   go_ret
   have e:putR s L=L.take k++[s]++L.drop (k):=by exact put_at PO.out SA.out
   have el:(putR s L).length=k+1+(0):=by rw [e,List.length_append,List.length_append,List.length_take,List.length_drop,HLN.out,Nat.min_eq_left (by omega)];rw [E0.out];rfl
   exact ⟨_,rfl,by rw [el,e,cellsS_append,cellsS_append,show cellsS [s]=s.cells by simp [cellsS]];exact own_lo O4.out (Nat.le_succ wb0),keptFF KB.out K4.out⟩
end
/- spoorref21's R: the spans that have not expired, by trace and ID. -/
section
set_option maxRecDepth 100000
open Go.RowKit

theorem own_low {w:World}{b0 b1 e size:Nat}{v:Value}{n:Nat}{xs:List Value}(h:w.ownsRow b1 e size v n xs)(hb:b0≤b1):w.ownsRow b0 e size v n xs:=by
 obtain ⟨h1,h2⟩:=h
 refine ⟨h1,?_⟩
 rcases h2 with h2 | ⟨g,cap,cur,rfl,hg,rest⟩
 ·exact .inl h2
 ·exact .inr ⟨g,cap,cur,rfl,Nat.le_trans hb hg,rest⟩
theorem posR_le (s:Spn):∀ L,posR s L≤L.length
 | []=>Nat.le_refl _
 | m::t=>by
  rw [posR]
  split
  ·have:=posR_le s t;simp;omega
  ·simp
theorem putR_len (s:Spn)(L:List Spn):(putR s L).length≤L.length+1:=by
 have h:=posR_le s L
 unfold putR
 rw [List.length_append,List.length_append,List.length_take,List.length_drop]
 split <;> simp <;> omega
noncomputable def foldR (L:List Spn):List Spn:=L.foldl (fun a s=>putR s a) []
theorem foldR_snoc (L:List Spn)(x:Spn):foldR (L++[x])=putR x (foldR L):=by simp [foldR]
theorem foldR_len_aux:∀ (L a:List Spn),(L.foldl (fun a s=>putR s a) a).length≤a.length+L.length
 | [],a=>Nat.le_refl _
 | x::t,a=>by
  have h1:=foldR_len_aux t (putR x a)
  have h2:=putR_len x a
  simp only [List.foldl_cons,List.length_cons];omega
theorem foldR_len (L:List Spn):(foldR L).length≤L.length:=by have:=foldR_len_aux L [];simpa [foldR] using this
set_option maxHeartbeats 8000000 in
theorem r_all {w:World}{mp base:Nat}{v:Value}{L:List Spn}(now:Int)(h1:0≤now)(h2:now≤4294967296)(hc:w.cell? ⟨mp,0,none⟩=some v)(ho:w.ownsRow base 96 8 v L.length (cellsS L))(hm:∀ m∈L,chkB m=true)(hl:L.length≤1000000) :
  Calls Tryz.prog 18 #[.pointer (some ⟨mp,0,none⟩),.int .i64 now] w fun e w'=>∃ v',e = .returned v'∧w'.ownsRow w.heap.size 96 8 v' (foldR (liveF now L)).length (cellsS (foldR (liveF now L)))∧Kept (fun _=>False) w w':=by
 obtain ⟨la,cap,rfl⟩:=own_slice ho
 obtain ⟨n,hn⟩:∃ n,L.length=n:=⟨_,rfl⟩
 rw [hn] at ho hc hl
 have HLN:=Lib.hid hn
 have OL:=Lib.hid ho
 have HC:=Lib.hid hc
 have HM:=Lib.hid hm
 clear ho hn hm hc
 go_enter Tryz.func18,Tryz.ntmps18
 go_wp2
 go_loopg [5,6] n (fun gh s t wr=>∃ i:Nat,i+gh=n∧t = .int .i64 i∧wr.ownsRow w.heap.size 96 8 s (foldR (liveF now (L.take i))).length (cellsS (foldR (liveF now (L.take i))))∧Kept (fun _=>False) w wr)
 case atStart=>exact ⟨0,by omega,rfl,World.ownsRow_nil _ _ _ _,Kept.refl _ _⟩
 case round=>
  obtain ⟨i,ji,rfl,ho,kr⟩:=hrel
  have JI:=Lib.hid ji;have OO:=Lib.hid ho;have KR:=Lib.hid kr
  have hc:=kr.cell HC.out (fun f=>f)
  obtain ⟨ao,co,rfl⟩:=own_slice ho
  clear ji ho kr
  have i0:(0:Int)≤(i:Int):=by omega
  by_cases hin:i<n
  ·have i1 : (i : Int) < (n : Int) := by omega
   have i2:(i:Int)≤1000000:=by omega
   obtain ⟨x,hx⟩:∃ x,L[i]? = some x:=⟨_,List.getElem?_eq_getElem (by rw [HLN.out];exact hin)⟩
   obtain ⟨g,rfl,hcs⟩:∃ g,la=some ⟨g,0,none⟩∧∀ j u,(cellsS L)[j]? = some u→w.cell? ⟨g,j,none⟩=some u:=by
    rcases row_form OL.out with ⟨h1,h2⟩ | ⟨g,c,h1,_,_,_,hc2⟩
    ·omega
    ·cases h1;exact ⟨g,rfl,hc2⟩
   have rB:=ReadsS.at (o:=0) (fun j u hu=>by rw [Nat.zero_add];exact KR.out.cell (hcs j u hu) (fun f=>f)) hx
   rw [Nat.zero_add] at rB
   obtain ⟨q0,q1,q2,q3,q4,q5,q6,q7⟩:=rB
   have num:=(chk_num (HM.out x (List.mem_of_getElem? hx))).2.2.2.1
   have E:=Lib.hid (rexpired_all x now num.1 num.2 h1 h2)
   obtain ⟨be,hbe⟩:∃ c,lateB x.st now=c:=⟨_,rfl⟩
   rw [hbe] at E
   have BE:=Lib.hid hbe
   have HX:=Lib.hid hx
   have LT:=Lib.hid (live_take now L hx)
   clear hcs hx num hbe
   go_wp2_with fail
   refine (E.out _).mono ?_
   rintro e w3 ⟨rfl,k3⟩
   have K3:=Lib.hid (keptFF KR.out k3)
   have O3:=Lib.hid (own_kept OO.out k3 (fun _ _ f=>f))
   replace hc:=k3.cell hc (fun f=>f)
   replace q0:=k3.cell q0 (fun f=>f)
   replace q1:=k3.cell q1 (fun f=>f)
   replace q2:=k3.cell q2 (fun f=>f)
   replace q3:=k3.cell q3 (fun f=>f)
   replace q4:=k3.cell q4 (fun f=>f)
   replace q5:=k3.cell q5 (fun f=>f)
   replace q6:=k3.cell q6 (fun f=>f)
   replace q7:=k3.cell q7 (fun f=>f)
   clear k3
   cases be with
   | true=>
    go_wp2
    go_roundg (n - i - 1)
    case measure=>have:=JI.out;omega
    case rel=>
     have e1:liveF now [x]=[]:=by unfold liveF;simp [BE.out]
     have e:=LT.out
     rw [e1,List.append_nil] at e
     exact ⟨i+1,by have:=JI.out;omega,by go_num,by rw [e];exact O3.out,K3.out⟩
   | false=>
    have fl:(foldR (liveF now (L.take i))).length≤1000000000:=by
     have a1:=foldR_len (liveF now (L.take i))
     have a2:=live_len now (L.take i)
     rw [List.length_take] at a2
     omega
    have P:=Lib.hid (put_all x O3.out fl)
    unfold aggS at P
    clear fl
    go_wp2_with fail
    refine P.out.mono ?_
    rintro e w4 ⟨v4,rfl,o4,k4⟩
    have K4:=Lib.hid (keptFF K3.out k4)
    have O4:=Lib.hid (own_low o4 K3.out.size)
    clear o4 k4 q0 q1 q2 q3 q4 q5 q6 q7 hc
    go_wp2
    go_roundg (n - i - 1)
    case measure=>have:=JI.out;omega
    case rel=>
     have e1:liveF now [x]=[x]:=by unfold liveF;simp [BE.out]
     have e:=LT.out
     rw [e1] at e
     exact ⟨i+1,by have:=JI.out;omega,by go_num,by rw [e,foldR_snoc];exact O4.out,K4.out⟩
  ·have i1 : ¬ (i : Int) < (n : Int) := by omega
   have ei:L.take i=L:=List.take_of_length_le (by rw [HLN.out];omega)
   rw [ei] at OO
   go_wp2
   go_ret
   exact ⟨_,rfl,OO.out,KR.out⟩
end
/- spoorref21.Take: the spans that come and are taken, by those that are there. -/
section
set_option maxRecDepth 100000
open Go.RowKit

/-- Some one of them has this key, and has not expired. -/
def barT (now:Int)(s:Spn):List Spn→Bool
 | []=>false
 | x::t=>(decide (keyOf x=keyOf s) && !lateB x.st now) || barT now s t
def barO (s:Spn):List Spn→Bool
 | []=>false
 | x::t=>decide (keyOf x=keyOf s) || barO s t
theorem barT_snoc (now:Int)(s x:Spn):∀ L,barT now s (L++[x])=(barT now s L || (decide (keyOf x=keyOf s) && !lateB x.st now))
 | []=>by simp [barT]
 | y::t=>by simp only [List.cons_append,barT,barT_snoc now s x t,Bool.or_assoc]
theorem barO_snoc (s x:Spn):∀ L,barO s (L++[x])=(barO s L || decide (keyOf x=keyOf s))
 | []=>by simp [barO]
 | y::t=>by simp only [List.cons_append,barO,barO_snoc s x t,Bool.or_assoc]
theorem rtake_snoc {R:List Spn}{i:Nat}{x:Spn}(h:R[i]? = some x):R.take (i+1)=R.take i++[x]:=by rw [List.take_add_one,h];rfl
def okR (now:Int)(there out:List Spn)(s:Spn):Bool:=(((chkB s && !lateB s.st now) && !barT now s there) && !barO s out)
def takeR (now:Int)(there:List Spn):List Spn→List Spn→List Spn
 | [],out=>out
 | s::t,out=>takeR now there t (if okR now there out s=true then out++[s] else out)
theorem kept_dn {S:Nat→Prop}{a w:World}(h:Kept S a w)(n:Nat):Kept S a (w.drewN n):=⟨h.os,h.tape,h.output,h.size,h.block⟩
theorem key_iff {x y:Spn}:keyOf x=keyOf y ↔ (x.tr=y.tr∧x.id=y.id):=by unfold keyOf;exact Prod.mk.injEq _ _ _ _ ▸ Iff.rfl
theorem takeR_len (now:Int)(there:List Spn):∀ l out,(takeR now there l out).length≤out.length+l.length
 | [],out=>Nat.le_refl _
 | s::t,out=>by
  have h:=takeR_len now there t (if okR now there out s=true then out++[s] else out)
  rw [takeR]
  refine Nat.le_trans h ?_
  split <;> simp <;> omega
set_option maxHeartbeats 32000000 in
theorem rtake_all {w:World}{va vb:Value}{A B:List Spn}(now:Int)(h1:0≤now)(h2:now≤4294967296)(ha:ReadsS w va A)(hb:ReadsS w vb B)(hA:∀ m∈A,chkB m=true)(hB:∀ m∈B,Fits m)(hlA:A.length≤1000000)(hlB:B.length≤1000000) :
  Calls Tryz.prog 100 #[va,vb,.int .i64 now] w fun e w'=>∃ v',e = .returned v'∧w'.ownsRow w.heap.size 96 8 v' (takeR now A B []).length (cellsS (takeR now A B []))∧Kept (fun _=>False) w w':=by
 obtain ⟨i0,hi0,hz0,hz1,hz2⟩:=info_parts inf111
 obtain ⟨aa,ca,rfl,ha⟩:=ha
 obtain ⟨ab,cb,rfl,hb⟩:=hb
 have RA:=Lib.hid ha;have RB:=Lib.hid hb;have CA:=Lib.hid hA;have FB:=Lib.hid hB
 obtain ⟨na,hna⟩:∃ n,A.length=n:=⟨_,rfl⟩
 obtain ⟨nb,hnb⟩:∃ n,B.length=n:=⟨_,rfl⟩
 rw [hna] at hlA ⊢
 rw [hnb] at hlB ⊢
 have NA:=Lib.hid hna;have NB:=Lib.hid hnb
 obtain ⟨TR,hTR⟩:∃ T,takeR now A B []=T:=⟨_,rfl⟩
 have T0:=Lib.hid hTR
 rw [hTR]
 have TLEN:=Lib.hid (show TR.length≤nb by rw [← hTR,← hnb];have:=takeR_len now A B [];simpa using this)
 clear ha hb hA hB hna hnb hTR
 go_enter Tryz.func100,Tryz.ntmps100
 go_wp2
 go_loopg [7,8] nb (fun gh s t wr=>∃ (i:Nat) (O:List Spn),i+gh=nb∧O.length≤i∧t = .int .i64 i∧wr.ownsRow w.heap.size 96 8 s O.length (cellsS O)∧takeR now A (B.drop i) O=TR∧Kept (fun _=>False) w wr)
 case atStart=>exact ⟨0,[],by omega,Nat.le_refl _,rfl,World.ownsRow_nil _ _ _ _,by rw [List.drop_zero];exact T0.out,Kept.refl _ _⟩
 case round=>
  obtain ⟨i,O,ji,jo,rfl,ho,tr,kr⟩:=hrel
  have JI:=Lib.hid ji;have OO:=Lib.hid ho;have KR:=Lib.hid kr;have TI:=Lib.hid tr
  obtain ⟨ao,co,rfl⟩:=own_slice ho
  clear ji ho kr tr
  have i0':(0:Int)≤(i:Int):=by omega
  by_cases hin:i<nb
  ·have i1 : (i : Int) < (nb : Int) := by omega
   have i2:(i:Int)≤1000000:=by omega
   obtain ⟨y,hy⟩:∃ y,B[i]? = some y:=⟨_,List.getElem?_eq_getElem (by rw [NB.out];exact hin)⟩
   obtain ⟨gl,ol,rfl,hcb⟩:∃ g o,ab=some ⟨g,o,none⟩∧∀ j u,(cellsS B)[j]? = some u→w.cell? ⟨g,o+j,none⟩=some u:=by
    rcases RB.out with h | h
    ·have:=NB.out;subst h;simp at this;omega
    ·exact h
   have YW:=Lib.hid (ReadsS.at hcb hy)
   have fy:=FB.out y (List.mem_of_getElem? hy)
   have C:=Lib.hid (rcheck_all y fy.1 fy.2.1 fy.2.2)
   obtain ⟨bc,hbc⟩:∃ c,chkB y=c:=⟨_,rfl⟩
   have BC:=Lib.hid hbc
   rw [hbc] at C
   have HY:=Lib.hid hy
   obtain ⟨n,hn⟩:∃ n,O.length=n:=⟨_,rfl⟩
   have LN:=Lib.hid hn
   rw [hn] at OO jo ⊢
   obtain ⟨q0,q1,q2,q3,q4,q5,q6,q7⟩:=YW.out
   replace q0:=KR.out.cell q0 (fun f=>f)
   replace q1:=KR.out.cell q1 (fun f=>f)
   replace q2:=KR.out.cell q2 (fun f=>f)
   replace q3:=KR.out.cell q3 (fun f=>f)
   replace q4:=KR.out.cell q4 (fun f=>f)
   replace q5:=KR.out.cell q5 (fun f=>f)
   replace q6:=KR.out.cell q6 (fun f=>f)
   replace q7:=KR.out.cell q7 (fun f=>f)
   clear hcb hy hbc hn fy
   unfold aggS at C
   go_wp2_with fail
   refine (C.out _).mono ?_
   rintro e w3 ⟨rfl,k3⟩
   have K3:=Lib.hid (keptFF KR.out k3)
   replace q0:=k3.cell q0 (fun f=>f)
   replace q1:=k3.cell q1 (fun f=>f)
   replace q2:=k3.cell q2 (fun f=>f)
   replace q3:=k3.cell q3 (fun f=>f)
   replace q4:=k3.cell q4 (fun f=>f)
   replace q5:=k3.cell q5 (fun f=>f)
   replace q6:=k3.cell q6 (fun f=>f)
   replace q7:=k3.cell q7 (fun f=>f)
   have O3:=Lib.hid (own_kept OO.out k3 (fun _ _ f=>f))
   clear k3
   cases bc with
   | false=>
    have BB:=Lib.hid (show (chkB y && !lateB y.st now)=false by rw [BC.out];rfl)
    obtain ⟨b,hb⟩:∃ b,false=b:=⟨_,rfl⟩
    have HB:=Lib.hid hb
    rw [hb] at BB
    clear hb
    have K4:=K3;have O4:=O3
    clear q0 q1 q2 q3 q4 q5 q6 q7
    go_wp2
    go_loopg [9,10] na (fun gh s t wr=>∃ k:Nat,k+gh=na∧t = .int .i64 k∧s = .bool (b && !barT now y (A.take k))∧Kept (fun _=>False) w3 wr)
    case atStart=>exact ⟨0,by omega,rfl,by rw [List.take_zero,← BB.out];simp [barT,BC.out],Kept.refl _ _⟩
    case round=>
     obtain ⟨k,jk,rfl,rfl,kk⟩:=hrel
     have JK:=Lib.hid jk;have KK:=Lib.hid kk
     obtain ⟨c,hc⟩:∃ c,(b && !barT now y (A.take k))=c:=⟨_,rfl⟩
     have CC:=Lib.hid hc
     rw [hc]
     clear jk kk hc
     have k0:(0:Int)≤(k:Int):=by omega
     by_cases hkn:k<na
     ·have k1 : (k : Int) < (na : Int) := by omega
      have k2:(k:Int)≤1000000:=by omega
      obtain ⟨x,hx⟩:∃ x,A[k]? = some x:=⟨_,List.getElem?_eq_getElem (by rw [NA.out];exact hkn)⟩
      obtain ⟨gt,ot,rfl,hca⟩:∃ g o,aa=some ⟨g,o,none⟩∧∀ j u,(cellsS A)[j]? = some u→w.cell? ⟨g,o+j,none⟩=some u:=by
       rcases RA.out with h | h
       ·have:=NA.out;subst h;simp at this;omega
       ·exact h
      have KW:=keptFF K4.out KK.out
      have rx:=ReadsS.at (fun j u hu=>KW.cell (hca j u hu) (fun f=>f)) hx
      have y0:=KW.cell YW.out.1 (fun f=>f)
      have y1:=KW.cell YW.out.2.1 (fun f=>f)
      have HX:=Lib.hid hx
      have xc:=CA.out x (List.mem_of_getElem? hx)
      have BS:=Lib.hid (show barT now y (A.take (k+1))=(barT now y (A.take k) || (decide (keyOf x=keyOf y) && !lateB x.st now)) by rw [rtake_snoc hx,barT_snoc])
      clear hca KW hx
      by_cases c1:x.tr=y.tr
      ·by_cases c2 : x.id = y.id
       ·have num := (chk_num xc).2.2.2.1
        have E9:=Lib.hid (rexpired_all x now num.1 num.2 h1 h2)
        obtain ⟨bl,hbl⟩:∃ c,lateB x.st now=c:=⟨_,rfl⟩
        rw [hbl] at E9 BS
        rw [decide_eq_true (key_iff.2 ⟨c1,c2⟩)] at BS
        have d1:(x.tr == y.tr)=true:=by simp [c1]
        have d2:(x.id == y.id)=true:=by simp [c2]
        unfold aggS at E9
        clear num xc hbl c1 c2
        go_wp2
        refine wp_region_held_drew (S:=(fun w'=>(w'.cell? ⟨gt,ot+k * 8,none⟩=some (.int .i64 x.tr)∧w'.cell? ⟨gt,ot+k * 8+1,none⟩=some (.int .i64 x.id)∧w'.cell? ⟨gt,ot+k * 8+2,none⟩=some (.int .i64 x.pa)∧w'.cell? ⟨gt,ot+k * 8+3,none⟩=some (.string x.se)∧w'.cell? ⟨gt,ot+k * 8+4,none⟩=some (.string x.ho)∧w'.cell? ⟨gt,ot+k * 8+5,none⟩=some (.int .i64 x.st)∧w'.cell? ⟨gt,ot+k * 8+6,none⟩=some (.int .i64 x.du)∧w'.cell? ⟨gt,ot+k * 8+7,none⟩=some (.string x.no))∧(w'.cell? ⟨gl,ol+i * 8,none⟩=some (.int .i64 y.tr)∧w'.cell? ⟨gl,ol+i * 8+1,none⟩=some (.int .i64 y.id)))) (by kernel_rfl) ?_ (fun hHeld=>?_)
        ·exact ⟨rx,y0,y1⟩
        refine tW 0 opAt0 hHeld ?_
        try simp only [Act.put,z2,List.set]
        refine tW 1 opAt1 hHeld ?_
        try simp only [Act.put,z2,List.set]
        refine tW 2 opAt2 hHeld ?_
        try simp only [Act.put,z2,List.set]
        refine tW 3 opAt3 hHeld ?_
        try simp only [Act.put,z2,List.set]
        refine tW 4 opAt4 hHeld ?_
        try simp only [Act.put,z2,List.set]
        refine tW 5 opAt5 hHeld ?_
        try simp only [Act.put,z2,List.set]
        refine tW 6 opAt6 hHeld ?_
        try simp only [Act.put,z2,List.set]
        refine tW 7 opAt7 hHeld ?_
        try simp only [Act.put,z2,List.set]
        refine tW 8 opAt8 hHeld ?_
        try simp only [Act.put,z2,List.set]
        refine tW 9 opAt9 hHeld ?_
        try simp only [Act.put,z2,List.set]
        refine tW 10 opAt10 hHeld ?_
        try simp only [Act.put,z2,List.set]
        refine tW 11 opAt11 hHeld ?_
        try simp only [Act.put,z2,List.set]
        refine tW 12 opAt12 hHeld ?_
        try simp only [Act.put,z2,List.set]
        refine tW 13 opAt13 hHeld ?_
        try simp only [Act.put,z2,List.set]
        refine tW 14 opAt14 hHeld ?_
        try simp only [Act.put,z2,List.set]
        refine tW 15 opAt15 hHeld ?_
        try simp only [Act.put,z2,List.set]
        refine tW 16 opAt16 hHeld ?_
        try simp only [Act.put,z2,List.set]
        refine tW 17 opAt17 hHeld ?_
        try simp only [Act.put,z2,List.set]
        refine tW 18 opAt18 hHeld ?_
        try simp only [Act.put,z2,List.set]
        refine tW 19 opAt19 hHeld ?_
        try simp only [Act.put,z2,List.set]
        refine tW 20 opAt20 hHeld ?_
        try simp only [Act.put,z2,List.set]
        refine tW 21 opAt21 hHeld ?_
        try simp only [Act.put,z2,List.set]
        refine tW 22 opAt22 hHeld ?_
        try simp only [Act.put,z2,List.set]
        refine tW 23 opAt23 hHeld ?_
        try simp only [Act.put,z2,List.set]
        refine tW 24 opAt24 hHeld ?_
        try simp only [Act.put,z2,List.set]
        refine tW 25 opAt25 hHeld ?_
        try simp only [Act.put,z2,List.set]
        refine tW 26 opAt26 hHeld ?_
        try simp only [Act.put,z2,List.set]
        refine tW 27 opAt27 hHeld ?_
        try simp only [Act.put,z2,List.set]
        refine tH (v:=?_) 28 opAt28 ?_ hHeld ?_
        case refine_2=>(intro w hSw;(try dsimp only at hSw);obtain ⟨x0,x1,x2,x3,x4,x5,x6,x7⟩:=hSw.1;clear hSw;go_simp;all_goals (with_reducible rfl))
        try simp only [Act.put,z2,List.set]
        refine tW 29 opAt29 hHeld ?_
        try simp only [Act.put,z2,List.set]
        refine wpAnyH_ready (rs:=[30]) (by kernel_rfl) (by simp) ?_
        refine AllReadyH.cons opAt30 (fun K hK=>?_) AllReadyH.nil
        go_simp
        go_at_call 57;refine (E9.out _).mono ?_;rintro e w7 ⟨rfl,k7⟩;dsimp only
        refine hK.out _ _ ?_ (fun hHeld=>?_)
        ·exact ⟨⟨k7.cell hHeld.1.1 (fun f=>f),k7.cell hHeld.1.2.1 (fun f=>f),k7.cell hHeld.1.2.2.1 (fun f=>f),k7.cell hHeld.1.2.2.2.1 (fun f=>f),k7.cell hHeld.1.2.2.2.2.1 (fun f=>f),k7.cell hHeld.1.2.2.2.2.2.1 (fun f=>f),k7.cell hHeld.1.2.2.2.2.2.2.1 (fun f=>f),k7.cell hHeld.1.2.2.2.2.2.2.2 (fun f=>f)⟩,k7.cell hHeld.2.1 (fun f=>f),k7.cell hHeld.2.2 (fun f=>f)⟩
        clear hK K
        try simp only [Act.put,z2,List.set]
        refine tW 31 opAt31 hHeld ?_
        try simp only [Act.put,z2,List.set]
        refine tW 32 opAt32 hHeld ?_
        try simp only [Act.put,z2,List.set]
        refine wpAnyH_done (by kernel_rfl) ?_ _
        have KN:=Lib.hid (keptFF KK.out.drew k7)
        clear hHeld k7 d1 d2 rx y0 y1
        cases bl with
        | true=>
         go_wp2
         go_roundg (na - k - 1)
         case measure=>have:=JK.out;omega
         case rel=>exact ⟨k+1,by have:=JK.out;omega,by go_num,by rw [BS.out,← CC.out];simp,KN.out⟩
        | false=>
         go_wp2
         go_roundg (na - k - 1)
         case measure=>have:=JK.out;omega
         case rel=>exact ⟨k+1,by have:=JK.out;omega,by go_num,by rw [BS.out];simp,KN.out⟩
       ·have d1 : (x.tr == y.tr) = true := by simp [c1]
        have d2:(x.id == y.id)=false:=by simp [c2]
        rw [decide_eq_false (fun e=>c2 (key_iff.1 e).2)] at BS
        obtain ⟨x0,x1,_,_,_,_,_,_⟩:=rx
        clear xc c2 c1
        go_wp2
        go_quiet (fail)
        go_wp2
        go_roundg (na - k - 1)
        case measure=>have:=JK.out;omega
        case rel=>exact ⟨k+1,by have:=JK.out;omega,by go_num,by rw [BS.out,← CC.out];simp,kept_dn KK.out _⟩
      ·have d1 : (x.tr == y.tr) = false := by simp [c1]
       rw [decide_eq_false (fun e=>c1 (key_iff.1 e).1)] at BS
       obtain ⟨x0,x1,_,_,_,_,_,_⟩:=rx
       clear xc c1
       go_wp2
       go_quiet (fail)
       go_wp2
       go_roundg (na - k - 1)
       case measure=>have:=JK.out;omega
       case rel=>exact ⟨k+1,by have:=JK.out;omega,by go_num,by rw [BS.out,← CC.out];simp,kept_dn KK.out _⟩
     ·have k1 : ¬ (k : Int) < (na : Int) := by omega
      have ek:A.take k=A:=List.take_of_length_le (by rw [NA.out];omega)
      rw [ek] at CC
      have K5:=Lib.hid (keptFF K4.out KK.out)
      have O5:=Lib.hid (own_kept O4.out KK.out (fun _ _ f=>f))
      obtain ⟨w5,hw5⟩:∃ W,wr=W:=⟨_,rfl⟩
      rw [hw5] at K5 O5 ⊢
      clear hw5 ek
      go_wp2
      go_loopg [9,11] n (fun gh s t wr=>∃ k:Nat,k+gh=n∧t = .int .i64 k∧s = .bool (c && !barO y (O.take k))∧Kept (fun _=>False) w5 wr)
      case atStart=>exact ⟨0,by omega,rfl,by rw [List.take_zero];simp [barO],Kept.refl _ _⟩
      case round=>
       obtain ⟨k,jk,rfl,rfl,kk⟩:=hrel
       have JK:=Lib.hid jk;have KK:=Lib.hid kk
       obtain ⟨d,hd⟩:∃ d,(c && !barO y (O.take k))=d:=⟨_,rfl⟩
       have DD:=Lib.hid hd
       rw [hd]
       clear jk kk hd
       have k0:(0:Int)≤(k:Int):=by omega
       by_cases hkn:k<n
       ·have k1 : (k : Int) < (n : Int) := by omega
        have k2:(k:Int)≤1000000:=by omega
        obtain ⟨x,hx⟩:∃ x,O[k]? = some x:=⟨_,List.getElem?_eq_getElem (by rw [LN.out];exact hkn)⟩
        obtain ⟨go,rfl,hco⟩:∃ g,ao=some ⟨g,0,none⟩∧∀ j u,(cellsS O)[j]? = some u→w5.cell? ⟨g,j,none⟩=some u:=by
         rcases row_form O5.out with ⟨h1,h2⟩ | ⟨g,c,h1,_,_,_,hc2⟩
         ·omega
         ·cases h1;exact ⟨g,rfl,hc2⟩
        have rx:=ReadsS.at (o:=0) (fun j u hu=>by rw [Nat.zero_add];exact KK.out.cell (hco j u hu) (fun f=>f)) hx
        rw [Nat.zero_add] at rx
        obtain ⟨x0,x1,_,_,_,_,_,_⟩:=rx
        have KW:=keptFF K5.out KK.out
        have y0:=KW.cell YW.out.1 (fun f=>f)
        have y1:=KW.cell YW.out.2.1 (fun f=>f)
        have BS:=Lib.hid (show barO y (O.take (k+1))=(barO y (O.take k) || decide (keyOf x=keyOf y)) by rw [rtake_snoc hx,barO_snoc])
        clear hco KW hx
        by_cases c1:x.tr=y.tr
        ·by_cases c2 : x.id = y.id
         ·have d1 : (x.tr == y.tr) = true := by simp [c1]
          have d2:(x.id == y.id)=true:=by simp [c2]
          rw [decide_eq_true (key_iff.2 ⟨c1,c2⟩)] at BS
          clear c1 c2
          go_wp2
          go_quiet (fail)
          go_wp2
          go_roundg (n - k - 1)
          case measure=>have:=JK.out;omega
          case rel=>exact ⟨k+1,by have:=JK.out;omega,by go_num,by rw [BS.out];simp,kept_dn KK.out _⟩
         ·have d1 : (x.tr == y.tr) = true := by simp [c1]
          have d2:(x.id == y.id)=false:=by simp [c2]
          rw [decide_eq_false (fun e=>c2 (key_iff.1 e).2)] at BS
          clear c1 c2
          go_wp2
          go_quiet (fail)
          go_wp2
          go_roundg (n - k - 1)
          case measure=>have:=JK.out;omega
          case rel=>exact ⟨k+1,by have:=JK.out;omega,by go_num,by rw [BS.out,← DD.out];simp,kept_dn KK.out _⟩
        ·have d1 : (x.tr == y.tr) = false := by simp [c1]
         rw [decide_eq_false (fun e=>c1 (key_iff.1 e).1)] at BS
         clear c1
         go_wp2
         go_quiet (fail)
         go_wp2
         go_roundg (n - k - 1)
         case measure=>have:=JK.out;omega
         case rel=>exact ⟨k+1,by have:=JK.out;omega,by go_num,by rw [BS.out,← DD.out];simp,kept_dn KK.out _⟩
       ·have k1 : ¬ (k : Int) < (n : Int) := by omega
        have ek:O.take k=O:=List.take_of_length_le (by rw [LN.out];omega)
        have K6:=Lib.hid (keptFF K5.out KK.out)
        have O6:=Lib.hid (own_kept O5.out KK.out (fun _ _ f=>f))
        have ST:=Lib.hid (show okR now A O y=d by
         rw [← DD.out,ek,← CC.out,← BB.out];rfl)
        obtain ⟨q0,q1,q2,q3,q4,q5,q6,q7⟩:=YW.out
        replace q0:=K6.out.cell q0 (fun f=>f)
        replace q1:=K6.out.cell q1 (fun f=>f)
        replace q2:=K6.out.cell q2 (fun f=>f)
        replace q3:=K6.out.cell q3 (fun f=>f)
        replace q4:=K6.out.cell q4 (fun f=>f)
        replace q5:=K6.out.cell q5 (fun f=>f)
        replace q6:=K6.out.cell q6 (fun f=>f)
        replace q7:=K6.out.cell q7 (fun f=>f)
        have TS:=Lib.hid (show takeR now A (B.drop (i+1)) (if d=true then O++[y] else O)=TR by
         have:=TI.out
         rw [← drop_step HY.out,takeR,ST.out] at this
         exact this)
        clear ek
        cases d with
        | false=>
         go_wp2
         go_roundg (nb - i - 1)
         case measure=>have:=JI.out;omega
         case rel=>exact ⟨i+1,O,by have:=JI.out;omega,by rw [LN.out];omega,by go_num,by rw [LN.out];exact O6.out,TS.out,K6.out⟩
        | true=>
         have sz:=K6.out.size
         obtain ⟨w6,hw6⟩:∃ W,wr=W:=⟨_,rfl⟩
         rw [hw6] at K6 O6 sz q0 q1 q2 q3 q4 q5 q6 q7 ⊢
         clear hw6
         go_wp2_with (at_builtin;refine stopH ?_)
         intro _
         refine wpList_append_own _ rfl _ _ 30 rfl w.heap.size 96 i0 _ 8 88 Tryz.underlying30 hi0 hz0 hz1 hz2 rfl (by decide) _ n _ rfl (own_kept O6.out ((Kept.refl (fun _=>False) w6).alloc _) (fun _ _ f=>f)) ⟨w6.heap.size,0,none⟩ 1 1 y.cells rfl rfl (World.news_of_block (heap_alloc_new w6 _)) ?qa ?qb ?qc ?qd ?_
         case qa=>intro u hu;simp [Spn.cells] at hu;rcases hu with rfl | rfl | rfl | rfl | rfl | rfl | rfl | rfl <;> rfl
         case qb=>unfold maxLen;omega
         case qc=>omega
         case qd=>simp;omega
         intro v8 w8 own8 hg8 hn8
         have K8:=Lib.hid (((K6.out.alloc (Obj.cells #[.int .i64 y.tr,.int .i64 y.id,.int .i64 y.pa,.string y.se,.string y.ho,.int .i64 y.st,.int .i64 y.du,.string y.no] 96)):Kept (fun _=>False) w _).grown hg8 (fun q hq hlt=>by have h1:=own_from O6.out hq;omega))
         have O8:=Lib.hid own8
         obtain ⟨ao8,cap8,rfl⟩:=own_slice own8
         clear own8 hg8 hn8 q0 q1 q2 q3 q4 q5 q6 q7
         go_wp2
         go_roundg (nb - i - 1)
         case measure=>have:=JI.out;omega
         case rel=>
          have e2:(O++[y]).length=n+1:=by rw [List.length_append,LN.out];rfl
          have e3:cellsS (O++[y])=cellsS O++y.cells:=by rw [cellsS_append];simp [cellsS]
          exact ⟨i+1,O++[y],by have:=JI.out;omega,by rw [e2];omega,by go_num,by rw [e2,e3];exact O8.out,TS.out,K8.out⟩
   | true=>
    have num:=(chk_num BC.out).2.2.2.1
    have E:=Lib.hid (rexpired_all y now num.1 num.2 h1 h2)
    obtain ⟨be,hbe⟩:∃ c,lateB y.st now=c:=⟨_,rfl⟩
    rw [hbe] at E
    have BE:=Lib.hid hbe
    unfold aggS at E
    clear num hbe
    obtain ⟨b,hb⟩:∃ b,(!be)=b:=⟨_,rfl⟩
    have BB:=Lib.hid (show (chkB y && !lateB y.st now)=b by rw [BC.out,BE.out,hb];rfl)
    go_wp2_with fail
    refine (E.out _).mono ?_
    rintro e w4 ⟨rfl,k4⟩
    have K4:=Lib.hid (keptFF K3.out k4)
    have O4:=Lib.hid (own_kept O3.out k4 (fun _ _ f=>f))
    clear k4 q0 q1 q2 q3 q4 q5 q6 q7 hb
    go_wp2
    go_loopg [9,10] na (fun gh s t wr=>∃ k:Nat,k+gh=na∧t = .int .i64 k∧s = .bool (b && !barT now y (A.take k))∧Kept (fun _=>False) w4 wr)
    case atStart=>exact ⟨0,by omega,rfl,by rw [List.take_zero,← BB.out];simp [barT,BC.out,BE.out],Kept.refl _ _⟩
    case round=>
     obtain ⟨k,jk,rfl,rfl,kk⟩:=hrel
     have JK:=Lib.hid jk;have KK:=Lib.hid kk
     obtain ⟨c,hc⟩:∃ c,(b && !barT now y (A.take k))=c:=⟨_,rfl⟩
     have CC:=Lib.hid hc
     rw [hc]
     clear jk kk hc
     have k0:(0:Int)≤(k:Int):=by omega
     by_cases hkn:k<na
     ·have k1 : (k : Int) < (na : Int) := by omega
      have k2:(k:Int)≤1000000:=by omega
      obtain ⟨x,hx⟩:∃ x,A[k]? = some x:=⟨_,List.getElem?_eq_getElem (by rw [NA.out];exact hkn)⟩
      obtain ⟨gt,ot,rfl,hca⟩:∃ g o,aa=some ⟨g,o,none⟩∧∀ j u,(cellsS A)[j]? = some u→w.cell? ⟨g,o+j,none⟩=some u:=by
       rcases RA.out with h | h
       ·have:=NA.out;subst h;simp at this;omega
       ·exact h
      have KW:=keptFF K4.out KK.out
      have rx:=ReadsS.at (fun j u hu=>KW.cell (hca j u hu) (fun f=>f)) hx
      have y0:=KW.cell YW.out.1 (fun f=>f)
      have y1:=KW.cell YW.out.2.1 (fun f=>f)
      have HX:=Lib.hid hx
      have xc:=CA.out x (List.mem_of_getElem? hx)
      have BS:=Lib.hid (show barT now y (A.take (k+1))=(barT now y (A.take k) || (decide (keyOf x=keyOf y) && !lateB x.st now)) by rw [rtake_snoc hx,barT_snoc])
      clear hca KW hx
      by_cases c1:x.tr=y.tr
      ·by_cases c2 : x.id = y.id
       ·have num := (chk_num xc).2.2.2.1
        have E9:=Lib.hid (rexpired_all x now num.1 num.2 h1 h2)
        obtain ⟨bl,hbl⟩:∃ c,lateB x.st now=c:=⟨_,rfl⟩
        rw [hbl] at E9 BS
        rw [decide_eq_true (key_iff.2 ⟨c1,c2⟩)] at BS
        have d1:(x.tr == y.tr)=true:=by simp [c1]
        have d2:(x.id == y.id)=true:=by simp [c2]
        unfold aggS at E9
        clear num xc hbl c1 c2
        go_wp2
        refine wp_region_held_drew (S:=(fun w'=>(w'.cell? ⟨gt,ot+k * 8,none⟩=some (.int .i64 x.tr)∧w'.cell? ⟨gt,ot+k * 8+1,none⟩=some (.int .i64 x.id)∧w'.cell? ⟨gt,ot+k * 8+2,none⟩=some (.int .i64 x.pa)∧w'.cell? ⟨gt,ot+k * 8+3,none⟩=some (.string x.se)∧w'.cell? ⟨gt,ot+k * 8+4,none⟩=some (.string x.ho)∧w'.cell? ⟨gt,ot+k * 8+5,none⟩=some (.int .i64 x.st)∧w'.cell? ⟨gt,ot+k * 8+6,none⟩=some (.int .i64 x.du)∧w'.cell? ⟨gt,ot+k * 8+7,none⟩=some (.string x.no))∧(w'.cell? ⟨gl,ol+i * 8,none⟩=some (.int .i64 y.tr)∧w'.cell? ⟨gl,ol+i * 8+1,none⟩=some (.int .i64 y.id)))) (by kernel_rfl) ?_ (fun hHeld=>?_)
        ·exact ⟨rx,y0,y1⟩
        refine tW 0 opAt0 hHeld ?_
        try simp only [Act.put,z2,List.set]
        refine tW 1 opAt1 hHeld ?_
        try simp only [Act.put,z2,List.set]
        refine tW 2 opAt2 hHeld ?_
        try simp only [Act.put,z2,List.set]
        refine tW 3 opAt3 hHeld ?_
        try simp only [Act.put,z2,List.set]
        refine tW 4 opAt4 hHeld ?_
        try simp only [Act.put,z2,List.set]
        refine tW 5 opAt5 hHeld ?_
        try simp only [Act.put,z2,List.set]
        refine tW 6 opAt6 hHeld ?_
        try simp only [Act.put,z2,List.set]
        refine tW 7 opAt7 hHeld ?_
        try simp only [Act.put,z2,List.set]
        refine tW 8 opAt8 hHeld ?_
        try simp only [Act.put,z2,List.set]
        refine tW 9 opAt9 hHeld ?_
        try simp only [Act.put,z2,List.set]
        refine tW 10 opAt10 hHeld ?_
        try simp only [Act.put,z2,List.set]
        refine tW 11 opAt11 hHeld ?_
        try simp only [Act.put,z2,List.set]
        refine tW 12 opAt12 hHeld ?_
        try simp only [Act.put,z2,List.set]
        refine tW 13 opAt13 hHeld ?_
        try simp only [Act.put,z2,List.set]
        refine tW 14 opAt14 hHeld ?_
        try simp only [Act.put,z2,List.set]
        refine tW 15 opAt15 hHeld ?_
        try simp only [Act.put,z2,List.set]
        refine tW 16 opAt16 hHeld ?_
        try simp only [Act.put,z2,List.set]
        refine tW 17 opAt17 hHeld ?_
        try simp only [Act.put,z2,List.set]
        refine tW 18 opAt18 hHeld ?_
        try simp only [Act.put,z2,List.set]
        refine tW 19 opAt19 hHeld ?_
        try simp only [Act.put,z2,List.set]
        refine tW 20 opAt20 hHeld ?_
        try simp only [Act.put,z2,List.set]
        refine tW 21 opAt21 hHeld ?_
        try simp only [Act.put,z2,List.set]
        refine tW 22 opAt22 hHeld ?_
        try simp only [Act.put,z2,List.set]
        refine tW 23 opAt23 hHeld ?_
        try simp only [Act.put,z2,List.set]
        refine tW 24 opAt24 hHeld ?_
        try simp only [Act.put,z2,List.set]
        refine tW 25 opAt25 hHeld ?_
        try simp only [Act.put,z2,List.set]
        refine tW 26 opAt26 hHeld ?_
        try simp only [Act.put,z2,List.set]
        refine tW 27 opAt27 hHeld ?_
        try simp only [Act.put,z2,List.set]
        refine tH (v:=?_) 28 opAt28 ?_ hHeld ?_
        case refine_2=>(intro w hSw;(try dsimp only at hSw);obtain ⟨x0,x1,x2,x3,x4,x5,x6,x7⟩:=hSw.1;clear hSw;go_simp;all_goals (with_reducible rfl))
        try simp only [Act.put,z2,List.set]
        refine tW 29 opAt29 hHeld ?_
        try simp only [Act.put,z2,List.set]
        refine wpAnyH_ready (rs:=[30]) (by kernel_rfl) (by simp) ?_
        refine AllReadyH.cons opAt30 (fun K hK=>?_) AllReadyH.nil
        go_simp
        go_at_call 57;refine (E9.out _).mono ?_;rintro e w7 ⟨rfl,k7⟩;dsimp only
        refine hK.out _ _ ?_ (fun hHeld=>?_)
        ·exact ⟨⟨k7.cell hHeld.1.1 (fun f=>f),k7.cell hHeld.1.2.1 (fun f=>f),k7.cell hHeld.1.2.2.1 (fun f=>f),k7.cell hHeld.1.2.2.2.1 (fun f=>f),k7.cell hHeld.1.2.2.2.2.1 (fun f=>f),k7.cell hHeld.1.2.2.2.2.2.1 (fun f=>f),k7.cell hHeld.1.2.2.2.2.2.2.1 (fun f=>f),k7.cell hHeld.1.2.2.2.2.2.2.2 (fun f=>f)⟩,k7.cell hHeld.2.1 (fun f=>f),k7.cell hHeld.2.2 (fun f=>f)⟩
        clear hK K
        try simp only [Act.put,z2,List.set]
        refine tW 31 opAt31 hHeld ?_
        try simp only [Act.put,z2,List.set]
        refine tW 32 opAt32 hHeld ?_
        try simp only [Act.put,z2,List.set]
        refine wpAnyH_done (by kernel_rfl) ?_ _
        have KN:=Lib.hid (keptFF KK.out.drew k7)
        clear hHeld k7 d1 d2 rx y0 y1
        cases bl with
        | true=>
         go_wp2
         go_roundg (na - k - 1)
         case measure=>have:=JK.out;omega
         case rel=>exact ⟨k+1,by have:=JK.out;omega,by go_num,by rw [BS.out,← CC.out];simp,KN.out⟩
        | false=>
         go_wp2
         go_roundg (na - k - 1)
         case measure=>have:=JK.out;omega
         case rel=>exact ⟨k+1,by have:=JK.out;omega,by go_num,by rw [BS.out];simp,KN.out⟩
       ·have d1 : (x.tr == y.tr) = true := by simp [c1]
        have d2:(x.id == y.id)=false:=by simp [c2]
        rw [decide_eq_false (fun e=>c2 (key_iff.1 e).2)] at BS
        obtain ⟨x0,x1,_,_,_,_,_,_⟩:=rx
        clear xc c2 c1
        go_wp2
        go_quiet (fail)
        go_wp2
        go_roundg (na - k - 1)
        case measure=>have:=JK.out;omega
        case rel=>exact ⟨k+1,by have:=JK.out;omega,by go_num,by rw [BS.out,← CC.out];simp,kept_dn KK.out _⟩
      ·have d1 : (x.tr == y.tr) = false := by simp [c1]
       rw [decide_eq_false (fun e=>c1 (key_iff.1 e).1)] at BS
       obtain ⟨x0,x1,_,_,_,_,_,_⟩:=rx
       clear xc c1
       go_wp2
       go_quiet (fail)
       go_wp2
       go_roundg (na - k - 1)
       case measure=>have:=JK.out;omega
       case rel=>exact ⟨k+1,by have:=JK.out;omega,by go_num,by rw [BS.out,← CC.out];simp,kept_dn KK.out _⟩
     ·have k1 : ¬ (k : Int) < (na : Int) := by omega
      have ek:A.take k=A:=List.take_of_length_le (by rw [NA.out];omega)
      rw [ek] at CC
      have K5:=Lib.hid (keptFF K4.out KK.out)
      have O5:=Lib.hid (own_kept O4.out KK.out (fun _ _ f=>f))
      obtain ⟨w5,hw5⟩:∃ W,wr=W:=⟨_,rfl⟩
      rw [hw5] at K5 O5 ⊢
      clear hw5 ek
      go_wp2
      go_loopg [9,11] n (fun gh s t wr=>∃ k:Nat,k+gh=n∧t = .int .i64 k∧s = .bool (c && !barO y (O.take k))∧Kept (fun _=>False) w5 wr)
      case atStart=>exact ⟨0,by omega,rfl,by rw [List.take_zero];simp [barO],Kept.refl _ _⟩
      case round=>
       obtain ⟨k,jk,rfl,rfl,kk⟩:=hrel
       have JK:=Lib.hid jk;have KK:=Lib.hid kk
       obtain ⟨d,hd⟩:∃ d,(c && !barO y (O.take k))=d:=⟨_,rfl⟩
       have DD:=Lib.hid hd
       rw [hd]
       clear jk kk hd
       have k0:(0:Int)≤(k:Int):=by omega
       by_cases hkn:k<n
       ·have k1 : (k : Int) < (n : Int) := by omega
        have k2:(k:Int)≤1000000:=by omega
        obtain ⟨x,hx⟩:∃ x,O[k]? = some x:=⟨_,List.getElem?_eq_getElem (by rw [LN.out];exact hkn)⟩
        obtain ⟨go,rfl,hco⟩:∃ g,ao=some ⟨g,0,none⟩∧∀ j u,(cellsS O)[j]? = some u→w5.cell? ⟨g,j,none⟩=some u:=by
         rcases row_form O5.out with ⟨h1,h2⟩ | ⟨g,c,h1,_,_,_,hc2⟩
         ·omega
         ·cases h1;exact ⟨g,rfl,hc2⟩
        have rx:=ReadsS.at (o:=0) (fun j u hu=>by rw [Nat.zero_add];exact KK.out.cell (hco j u hu) (fun f=>f)) hx
        rw [Nat.zero_add] at rx
        obtain ⟨x0,x1,_,_,_,_,_,_⟩:=rx
        have KW:=keptFF K5.out KK.out
        have y0:=KW.cell YW.out.1 (fun f=>f)
        have y1:=KW.cell YW.out.2.1 (fun f=>f)
        have BS:=Lib.hid (show barO y (O.take (k+1))=(barO y (O.take k) || decide (keyOf x=keyOf y)) by rw [rtake_snoc hx,barO_snoc])
        clear hco KW hx
        by_cases c1:x.tr=y.tr
        ·by_cases c2 : x.id = y.id
         ·have d1 : (x.tr == y.tr) = true := by simp [c1]
          have d2:(x.id == y.id)=true:=by simp [c2]
          rw [decide_eq_true (key_iff.2 ⟨c1,c2⟩)] at BS
          clear c1 c2
          go_wp2
          go_quiet (fail)
          go_wp2
          go_roundg (n - k - 1)
          case measure=>have:=JK.out;omega
          case rel=>exact ⟨k+1,by have:=JK.out;omega,by go_num,by rw [BS.out];simp,kept_dn KK.out _⟩
         ·have d1 : (x.tr == y.tr) = true := by simp [c1]
          have d2:(x.id == y.id)=false:=by simp [c2]
          rw [decide_eq_false (fun e=>c2 (key_iff.1 e).2)] at BS
          clear c1 c2
          go_wp2
          go_quiet (fail)
          go_wp2
          go_roundg (n - k - 1)
          case measure=>have:=JK.out;omega
          case rel=>exact ⟨k+1,by have:=JK.out;omega,by go_num,by rw [BS.out,← DD.out];simp,kept_dn KK.out _⟩
        ·have d1 : (x.tr == y.tr) = false := by simp [c1]
         rw [decide_eq_false (fun e=>c1 (key_iff.1 e).1)] at BS
         clear c1
         go_wp2
         go_quiet (fail)
         go_wp2
         go_roundg (n - k - 1)
         case measure=>have:=JK.out;omega
         case rel=>exact ⟨k+1,by have:=JK.out;omega,by go_num,by rw [BS.out,← DD.out];simp,kept_dn KK.out _⟩
       ·have k1 : ¬ (k : Int) < (n : Int) := by omega
        have ek:O.take k=O:=List.take_of_length_le (by rw [LN.out];omega)
        have K6:=Lib.hid (keptFF K5.out KK.out)
        have O6:=Lib.hid (own_kept O5.out KK.out (fun _ _ f=>f))
        have ST:=Lib.hid (show okR now A O y=d by
         rw [← DD.out,ek,← CC.out,← BB.out];rfl)
        obtain ⟨q0,q1,q2,q3,q4,q5,q6,q7⟩:=YW.out
        replace q0:=K6.out.cell q0 (fun f=>f)
        replace q1:=K6.out.cell q1 (fun f=>f)
        replace q2:=K6.out.cell q2 (fun f=>f)
        replace q3:=K6.out.cell q3 (fun f=>f)
        replace q4:=K6.out.cell q4 (fun f=>f)
        replace q5:=K6.out.cell q5 (fun f=>f)
        replace q6:=K6.out.cell q6 (fun f=>f)
        replace q7:=K6.out.cell q7 (fun f=>f)
        have TS:=Lib.hid (show takeR now A (B.drop (i+1)) (if d=true then O++[y] else O)=TR by
         have:=TI.out
         rw [← drop_step HY.out,takeR,ST.out] at this
         exact this)
        clear ek
        cases d with
        | false=>
         go_wp2
         go_roundg (nb - i - 1)
         case measure=>have:=JI.out;omega
         case rel=>exact ⟨i+1,O,by have:=JI.out;omega,by rw [LN.out];omega,by go_num,by rw [LN.out];exact O6.out,TS.out,K6.out⟩
        | true=>
         have sz:=K6.out.size
         obtain ⟨w6,hw6⟩:∃ W,wr=W:=⟨_,rfl⟩
         rw [hw6] at K6 O6 sz q0 q1 q2 q3 q4 q5 q6 q7 ⊢
         clear hw6
         go_wp2_with (at_builtin;refine stopH ?_)
         intro _
         refine wpList_append_own _ rfl _ _ 30 rfl w.heap.size 96 i0 _ 8 88 Tryz.underlying30 hi0 hz0 hz1 hz2 rfl (by decide) _ n _ rfl (own_kept O6.out ((Kept.refl (fun _=>False) w6).alloc _) (fun _ _ f=>f)) ⟨w6.heap.size,0,none⟩ 1 1 y.cells rfl rfl (World.news_of_block (heap_alloc_new w6 _)) ?qa ?qb ?qc ?qd ?_
         case qa=>intro u hu;simp [Spn.cells] at hu;rcases hu with rfl | rfl | rfl | rfl | rfl | rfl | rfl | rfl <;> rfl
         case qb=>unfold maxLen;omega
         case qc=>omega
         case qd=>simp;omega
         intro v8 w8 own8 hg8 hn8
         have K8:=Lib.hid (((K6.out.alloc (Obj.cells #[.int .i64 y.tr,.int .i64 y.id,.int .i64 y.pa,.string y.se,.string y.ho,.int .i64 y.st,.int .i64 y.du,.string y.no] 96)):Kept (fun _=>False) w _).grown hg8 (fun q hq hlt=>by have h1:=own_from O6.out hq;omega))
         have O8:=Lib.hid own8
         obtain ⟨ao8,cap8,rfl⟩:=own_slice own8
         clear own8 hg8 hn8 q0 q1 q2 q3 q4 q5 q6 q7
         go_wp2
         go_roundg (nb - i - 1)
         case measure=>have:=JI.out;omega
         case rel=>
          have e2:(O++[y]).length=n+1:=by rw [List.length_append,LN.out];rfl
          have e3:cellsS (O++[y])=cellsS O++y.cells:=by rw [cellsS_append];simp [cellsS]
          exact ⟨i+1,O++[y],by have:=JI.out;omega,by rw [e2];omega,by go_num,by rw [e2,e3];exact O8.out,TS.out,K8.out⟩
  ·have i1 : ¬ (i : Int) < (nb : Int) := by omega
   have ei:B.drop i=[]:=List.drop_eq_nil_of_le (by rw [NB.out];omega)
   have e:=TI.out
   rw [ei] at e
   have e2:O=TR:=e
   go_wp2
   go_ret
   exact ⟨_,rfl,by rw [← e2];exact OO.out,KR.out⟩
end
end Go.Proofs.YthknocapablpaaaGreatDoor.Rf
