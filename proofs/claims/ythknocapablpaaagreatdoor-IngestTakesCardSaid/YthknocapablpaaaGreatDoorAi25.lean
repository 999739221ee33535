/- A part of the proof. -/
import Derived.Lib.AppendZeros
import Derived.Sort.Walk0
import Derived.Test.YthknocapablpaaaGreatDoorAi2
namespace Go.Proofs.YthknocapablpaaaGreatDoor
/- memory's Range, walked. -/
section
set_option maxRecDepth 100000
open Go.RowKit

theorem ownr_kept {S:Nat→Prop}{w w':World}{base e size:Nat}{v:Value}{n:Nat}{xs:List Value}(h:w.ownsRow base e size v n xs)(hK:Kept S w w')(hv:∀ b,v.ownBlock=some b→¬ S b):w'.ownsRow base e size v n xs:=by
 obtain ⟨h1,h2⟩:=h
 refine ⟨h1,?_⟩
 rcases h2 with h2 | ⟨g,cap,cur,rfl,hb,hg,rest⟩
 ·exact .inl h2
 ·exact .inr ⟨g,cap,cur,rfl,hb,(hK.block g (Array.getElem?_eq_some_iff.1 hg).1 (hv g rfl)).trans hg,rest⟩
theorem ownr_from {w:World}{base e size:Nat}{v:Value}{n:Nat}{xs:List Value}(h:w.ownsRow base e size v n xs){q:Nat}(hq:v.ownBlock=some q):base≤q:=by
 rcases h.2 with ⟨rfl,_⟩ | ⟨g,cap,cur,rfl,hb,_⟩
 ·cases hq
 ·cases hq;exact hb
theorem append_types {t u e:TypeId}(ht:Tryz.prog.underlying t=some (.slice e))(hu:Tryz.prog.underlying u=some (.slice e)){ty:TypeId}{a b:Option Addr}{n c n' c':Nat}{w:World}:(Builtin.append_ #[t,u] ty #[.slice a n c,.slice b n' c']).run Tryz.prog w=(Builtin.append_ #[t,t] ty #[.slice a n c,.slice b n' c']).run Tryz.prog w:=by
 simp [Builtin.append_,run_underlying ht,run_underlying hu]
theorem append_own_types {t u e:TypeId}(ht:Tryz.prog.underlying t=some (.slice e))(hu:Tryz.prog.underlying u=some (.slice e)){ty:TypeId}{b:Option Addr}{n' c':Nat}{w w1:World}{base f size:Nat}{v:Value}{n:Nat}{xs:List Value}(h:w1.ownsRow base f size v n xs):(Builtin.append_ #[t,u] ty #[v,.slice b n' c']).run Tryz.prog w=(Builtin.append_ #[t,t] ty #[v,.slice b n' c']).run Tryz.prog w:=by
 rcases h.2 with ⟨rfl,_⟩ | ⟨g,cap,cur,rfl,_⟩ <;> exact append_types ht hu
/-- All cells of pages. -/
def allP (ps:List Pg):List Cel:=ps.flatMap (·.l)
theorem allP_snoc (ps:List Pg)(p:Pg):allP (ps++[p])=allP ps++p.l:=by simp [allP]
theorem allP_len:∀ (ps:List Pg),(∀ p∈ps,p.l.length≤1000)→(allP ps).length≤ps.length * 1000
 | [],_=>by simp [allP]
 | p::ps,h=>by
  have h1:=h p (by simp)
  have h2:=allP_len ps (fun q hq=>h q (by simp [hq]))
  simp [allP] at h2 ⊢
  omega
/-- Pages that are as they should be. -/
def PgsOk (ps:List Pg):Prop:=∀ p∈ps,p.l.length≤p.cap∧p.l.length≤1000∧∀ (k:ByteArray)(x y:Nat)(c d:Cel),x≤y→p.l[x]? = some c→p.l[y]? = some d→kway d k<0→kway c k<0
set_option maxHeartbeats 4000000 in
theorem mrange_any {w:World}{m:Nat}{ao:Option Addr}{cap:Nat}{ps:List Pg}{a b:ByteArray}(hc:w.cell? ⟨m,1,none⟩=some (.slice ao ps.length cap))(R:PagesR w ao ps)(ok:PgsOk ps)(hl:ps.length≤100000) :
  Calls Tryz.prog 131 #[.pointer (some ⟨m,0,none⟩),.string a,.string b] w fun e w'=>(∃ v,e = .returned v∧w'.ownsRow w.heap.size 132 3 v ((allP ps).filter (inK a b)).length (cellsC ((allP ps).filter (inK a b))))∧Kept (fun _=>False) w w':=by
 obtain ⟨i0,hi0,z0,s0,b0⟩:=info_132
 have RR:=Lib.hid R
 have OK:=Lib.hid ok
 obtain ⟨n,hn⟩:∃ n,ps.length=n:=⟨_,rfl⟩
 have HN:=Lib.hid hn
 rw [hn] at hc hl
 have HL:=Lib.hid hl
 clear R ok hn
 go_enter Tryz.func131,Tryz.ntmps131
 go_wp2_with fail
 clear hc
 go_loopg [7,19] n (fun gh t7 t19 wr=>∃ i:Nat,i+gh=n∧t19 = .int .i64 i∧wr.ownsRow w.heap.size 132 3 t7 ((allP (ps.take i)).filter (inK a b)).length (cellsC ((allP (ps.take i)).filter (inK a b)))∧Kept (fun _=>False) w wr)
 case atStart=>exact ⟨0,by omega,rfl,World.ownsRow_nil _ _ _ _,Kept.refl _ _⟩
 case round=>
  obtain ⟨i,hgh,rfl,hown,hk⟩:=hrel
  have HK:=Lib.hid hk
  cases gk with
  | zero=>
   have hi:i=n:=by omega
   subst hi
   have F:=Lib.hid hown
   have T:=Lib.hid (show ps.take i=ps from by rw [← HN.out,List.take_length])
   clear hgh hown hk
   go_wp2_with fail
   go_ret
   refine ⟨⟨_,rfl,?_⟩,HK.out⟩
   have:=F.out
   rwa [T.out] at this
  | succ gk=>
   have hi:i<ps.length:=by have:=HN.out;omega
   have hne:¬ ps=[]:=fun e=>by rw [e] at hi;simp at hi
   obtain ⟨p,hp⟩:∃ p,ps[i]? = some p:=⟨_,List.getElem?_eq_getElem hi⟩
   obtain ⟨g,o,rfl,hpc⟩:=RR.out.resolve_left hne
   have c0:=hk.cell (hpc i p hp).1 (fun f=>f)
   have POK:=Lib.hid ((hpc i p hp).2.kept hk)
   have PP:=Lib.hid (OK.out p (List.mem_of_getElem? hp))
   have i1:((i:Nat):Int)<(n:Int):=by have:=HN.out;omega
   have i2:(0:Int)≤(i:Int):=by omega
   have i3:wrap64 ((i:Int)+1)=((i+1:Nat):Int):=by have:=HL.out;unfold wrap64;omega
   have GH:=Lib.hid hgh
   have HT:=Lib.hid (show ps.take (i+1)=ps.take i++[p] from by rw [List.take_add_one,hp];rfl)
   have VL:=Lib.hid (show ((allP (ps.take i)).filter (inK a b)).length≤100000000 from by
    have h1:=List.length_filter_le (inK a b) (allP (ps.take i))
    have h2:=allP_len (ps.take i) (fun q hq=>(OK.out q (List.mem_of_mem_take hq)).2.1)
    rw [List.length_take] at h2
    have:=HL.out
    omega)
   obtain ⟨V,hV⟩:∃ V,(allP (ps.take i)).filter (inK a b)=V:=⟨_,rfl⟩
   have HV:=Lib.hid hV
   rw [hV] at hown VL
   obtain ⟨vn,hvn⟩:∃ x,V.length=x:=⟨_,rfl⟩
   have HVN:=Lib.hid hvn
   rw [hvn] at hown VL
   have OW:=Lib.hid hown
   obtain ⟨pg,po,pl,pc⟩:=p
   have C:=Lib.hid (fun (W:World) (K:Kept (fun _=>False) wr W)=>stretch_any (w:=W) (ao:=some ⟨pg,po,none⟩) (cap:=pc) (l:=pl) (a:=a) (b:=b) (.inr ⟨pg,po,rfl,fun x c hxc=>(POK.out.2 x c hxc).kept K⟩) (by have:=PP.out.2.1;(try dsimp only at this);omega) PP.out.2.2)
   unfold Pg.val at c0
   clear hgh hk hi hne hp hpc hown hV hvn
   go_wp2_with fail
   refine (C.out _ (Kept.refl _ _)).mono ?_
   rintro e w4 ⟨⟨x,y,hst,rfl⟩,kk⟩
   have hle:=stretch_le hst
   have hcp:=PP.out.1
   (try dsimp only at hcp)
   obtain ⟨q,hq,hcut⟩:=cut_page pg po pl.length pc x y hle.1 (by omega)
   have SE:=Lib.hid (stretch_eq hst)
   have K4:=Lib.hid (HK.out.trans kk (fun _ _ f=>f) (fun _ _ f=>f):Kept (fun _=>False) w w4)
   have O4:=Lib.hid (ownr_kept OW.out kk (fun _ _ f=>f))
   have NW:=Lib.hid (show ∀ j u,(cellsC ((pl.drop x).take (y - x)))[j]? = some u→w4.cell? ((⟨pg,q,none⟩:Addr).add j)=some u from fun j u hu=>by
    rw [add_mid]
    have hlt:x<y:=by
     by_cases e:x<y
     ·exact e
     ·rw [show y - x = 0 by omega] at hu
      simp [cellsC] at hu
    rw [hq hlt]
    refine cellsC_at ((pl.drop x).take (y - x)) (po+x * 3) (fun z c hz=>?_) j u hu
    rw [List.getElem?_take] at hz
    split at hz
    ·rw [List.getElem?_drop] at hz
     have:=(POK.out.2 (x+z) c hz).kept kk
     rwa [show po+(x+z) * 3=po+x * 3+z * 3 by omega] at this
    ·cases hz)
   have LE:=Lib.hid (show ((pl.drop x).take (y - x)).length=y - x from by rw [List.length_take,List.length_drop];omega)
   have PL:=Lib.hid (show y - x≤1000 from by have:=PP.out.2.1;(try dsimp only at this);omega)
   obtain ⟨d,hd⟩:∃ d,y - x=d:=⟨_,rfl⟩
   rw [hd] at hcut NW LE PL SE
   clear hst hle hcp hq kk hd c0
   obtain ⟨v',w5,hrun,hown,hgrow,_⟩:=run_append_own_at (P:=Tryz.prog) w4 w.heap.size 65 65 132 i0 _ 3 40 Tryz.underlying65 hi0 z0 s0 b0 rfl (by decide) _ vn _ O4.out ⟨pg,q,none⟩ d (pc - x) (cellsC ((pl.drop x).take d)) (by rw [cellsC_length,LE.out]) NW.out (cellsC_one _) (by have:=VL.out;have:=PL.out;unfold maxLen;omega) (by have:=VL.out;have:=PL.out;omega) K4.out.size
   rw [← append_own_types Tryz.underlying65 Tryz.underlying305 O4.out] at hrun
   have HR:=Lib.hid hrun
   have K6:=Lib.hid (K4.out.grown hgrow (fun k hk hlt=>by have:=ownr_from O4.out hk;omega))
   have O6:=Lib.hid hown
   clear hown hgrow hrun
   go_wp2_with (at_builtin;refine Lib.wpList_append_run _ rfl _ _ _ _ rfl _ _ rfl rfl _ _ HR.out ?_)
   go_wp2_with fail
   go_roundg gk
   case measure=>omega
   case rel=>
    refine ⟨i+1,by have:=GH.out;omega,rfl,?_,K6.out⟩
    have:=O6.out
    rw [HT.out,allP_snoc,List.filter_append,HV.out,← SE.out,List.length_append,cellsC_append,HVN.out,LE.out]
    exact this
end
/- The order of cells: plain laws. -/
section
open Go.RowKit

theorem bytes_eq {x y:ByteArray}(h:x.toList=y.toList):x=y:=by
 rw [ByteArray.toList_eq,ByteArray.toList_eq] at h
 exact ByteArray.ext (Array.ext' h)
structure IsCmp {α:Type} (c:α→α→Int):Prop where
 anti:∀ a b,c a b<0 ↔ 0<c b a
 tr:∀ a b d,c a b≤0→c b d≤0→c a d≤0

theorem IsCmp.zero {α:Type}{c:α→α→Int}(h:IsCmp c)(a b:α):c a b=0 ↔ c b a=0:=by
 have h1:=h.anti a b
 have h2:=h.anti b a
 constructor <;> intro e <;> omega
theorem IsCmp.le {α:Type}{c:α→α→Int}(h:IsCmp c)(a b:α):c a b≤0 ↔ 0≤c b a:=by
 have h2:=h.anti b a
 omega
theorem IsCmp.lt_le {α:Type}{c:α→α→Int}(h:IsCmp c){a b d:α}(h1:c a b<0)(h2:c b d≤0):c a d<0:=by
 have h3:=h.tr a b d (by omega) h2
 by_cases e:c a d=0
 ·have e2 := (h.zero a d).1 e
  have h4:=h.tr b d a h2 (by omega)
  have h5:=(h.anti a b).1 h1
  omega
 ·omega
theorem IsCmp.le_lt {α:Type}{c:α→α→Int}(h:IsCmp c){a b d:α}(h1:c a b≤0)(h2:c b d<0):c a d<0:=by
 have h3:=h.tr a b d h1 (by omega)
 by_cases e:c a d=0
 ·have e2 := (h.zero a d).1 e
  have h4:=h.tr d a b (by omega) h1
  have h5:=(h.anti b d).1 h2
  omega
 ·omega
theorem IsCmp.or {α:Type}{c d:α→α→Int}(h:IsCmp c)(k:IsCmp d):IsCmp (fun a b=>or2 (c a b) (d a b)):=by
 refine ⟨fun a b=>?_,fun a b e=>?_⟩
 ·have h1 := h.anti a b; have h2 := h.anti b a; have h3 := h.zero a b; have h4 := k.anti a b
  simp only [or2]
  split <;> split <;> omega
 ·intro h1 h2
  simp only [or2] at *
  by_cases e1:c a b=0
  ·rw [if_pos e1] at h1
   by_cases e2:c b e=0
   ·rw [if_pos e2] at h2
    have e3:c a e=0:=by
     have q1:=h.tr a b e (by omega) (by omega)
     have q2:=h.tr e b a (by have:=(h.zero b e).1 e2;omega) (by have:=(h.zero a b).1 e1;omega)
     have q3:=(h.le e a).1 q2
     omega
    rw [if_pos e3];exact k.tr _ _ _ h1 h2
   ·rw [if_neg e2] at h2
    have:=h.le_lt (a:=a) (b:=b) (d:=e) (by omega) (by omega)
    rw [if_neg (by omega)];omega
  ·rw [if_neg e1] at h1
   by_cases e2:c b e=0
   ·have := h.lt_le (a := a) (b := b) (d := e) (by omega) (by omega)
    rw [if_neg (by omega)];omega
   ·rw [if_neg e2] at h2
    have:=h.lt_le (a:=a) (b:=b) (d:=e) (by omega) (by omega)
    rw [if_neg (by omega)];omega

theorem cmpI_is:IsCmp cmpI:=by
 refine ⟨fun a b=>?_,fun a b d=>?_⟩
 ·simp only [cmpI]; repeat' split
  all_goals omega
 ·simp only [cmpI]; repeat' split
  all_goals omega
theorem cmpI_zero (a b:Int):cmpI a b=0 ↔ a=b:=by
 simp only [cmpI];repeat' split
 all_goals omega

theorem sLt_iff (x y:ByteArray):sLt x y=true ↔ x.toList<y.toList:=by
 unfold sLt;rw [bytesLess_eq];simp
theorem sEq_iff (x y:ByteArray):sEq x y=true ↔ x.toList=y.toList:=by unfold sEq;simp
theorem cmpS_lt (x y:ByteArray):cmpS x y<0 ↔ x.toList<y.toList:=by
 rw [← sLt_iff];unfold cmpS
 cases h:sLt x y
 ·cases sEq x y <;> simp
 ·simp
theorem cmpS_zero (x y:ByteArray):cmpS x y=0 ↔ x=y:=by
 unfold cmpS
 cases h:sLt x y with
 | true=>
  simp
  rintro rfl
  have:=(sLt_iff x x).1 h
  exact absurd this (List.lt_irrefl _)
 | false=>
  cases h2:sEq x y with
  | true=>simp;exact bytes_eq ((sEq_iff x y).1 h2)
  | false=>
   simp
   rintro rfl
   rw [(sEq_iff x x).2 rfl] at h2;cases h2
theorem cmpS_gt (x y:ByteArray):0<cmpS x y ↔ y.toList<x.toList:=by
 have h1:=cmpS_lt x y
 have h0:=cmpS_zero x y
 have h3:cmpS x y = -1∨cmpS x y=0∨cmpS x y=1:=by
  unfold cmpS;split
  ·exact .inl rfl
  ·split
   ·exact .inr (.inl rfl)
   ·exact .inr (.inr rfl)
 constructor
 ·intro h
  have n1:¬ x.toList<y.toList:=fun f=>by have:=h1.2 f;omega
  have n2:¬ x.toList=y.toList:=fun f=>by have:=h0.2 (bytes_eq f);omega
  have n3:y.toList≤x.toList:=List.not_lt.1 n1
  rcases List.le_iff_lt_or_eq.1 n3 with f | f
  ·exact f
  ·exact absurd f.symm n2
 ·intro h
  rcases h3 with e | e | e
  ·have := h1.1 (by omega)
   exact absurd this (List.lt_asymm h)
  ·have := h0.1 e
   subst this;exact absurd h (List.lt_irrefl _)
  ·omega
theorem cmpS_is:IsCmp cmpS:=by
 refine ⟨fun a b=>by rw [cmpS_lt,cmpS_gt],fun a b d h1 h2=>?_⟩
 have n1:¬ b.toList<a.toList:=fun f=>by have:=(cmpS_gt a b).2 f;omega
 have n2:¬ d.toList<b.toList:=fun f=>by have:=(cmpS_gt b d).2 f;omega
 have n3:a.toList≤d.toList:=List.le_trans (List.not_lt.1 n1) (List.not_lt.1 n2)
 have n4:¬ 0<cmpS a d:=fun f=>absurd ((cmpS_gt a d).1 f) (List.not_lt.2 n3)
 omega
theorem IsCmp.on {α β:Type}{c:β→β→Int}(h:IsCmp c)(f:α→β):IsCmp (fun a b=>c (f a) (f b)):=⟨fun _ _=>h.anti _ _,fun _ _ _=>h.tr _ _ _⟩
theorem IsCmp.flip {α:Type}{c:α→α→Int}(h:IsCmp c):IsCmp (fun a b=>c b a):=⟨fun _ _=>h.anti _ _,fun _ _ _ h1 h2=>h.tr _ _ _ h2 h1⟩
theorem cmpC_is:IsCmp cmpC:=((cmpS_is.on Cel.k).or ((cmpI_is.on Cel.s).flip))
theorem cmpC_zero (a b:Cel):cmpC a b=0 ↔ a.k=b.k∧a.s=b.s:=by
 unfold cmpC or2
 have h1:=cmpS_zero a.k b.k
 have h2:=cmpI_zero b.s a.s
 split
 ·rename_i h; rw [h2]; constructor
  ·intro e;exact ⟨h1.1 h,e.symm⟩
  ·intro e;exact e.2.symm
 ·rename_i h; constructor
  ·intro e;exact absurd e h
  ·intro e;exact absurd (h1.2 e.1) h
end
end Go.Proofs.YthknocapablpaaaGreatDoor
