/- A part of the proof. -/
import Derived.Test.YthknocapablpaaaGreatDoorAi26
import Derived.Test.YthknocapablpaaaGreatDoorAi24
namespace Go.Proofs.YthknocapablpaaaGreatDoor
/- slices.Insert of one cell into a page that begins its block. -/
section
open Go.RowKit Go.Lib Go.Eng

theorem cellsC_take:∀ (l:List Cel)(k:Nat),(cellsC l).take (k * 3)=cellsC (l.take k)
 | [],k=>by simp [cellsC]
 | c::l,0=>by simp [cellsC]
 | c::l,k+1=>by
  rw [show (k+1) * 3=k * 3+1+1+1 by omega]
  simp only [cellsC,List.cons_append,List.nil_append,List.take_succ_cons]
  rw [cellsC_take l k]
theorem cellsC_drop:∀ (l:List Cel)(k:Nat),(cellsC l).drop (k * 3)=cellsC (l.drop k)
 | [],k=>by simp [cellsC]
 | c::l,0=>by simp [cellsC]
 | c::l,k+1=>by
  rw [show (k+1) * 3=k * 3+1+1+1 by omega]
  simp only [cellsC,List.cons_append,List.nil_append,List.drop_succ_cons]
  rw [cellsC_drop l k]
theorem cellsC_get:∀ (l:List Cel)(x:Nat)(c:Cel),l[x]? = some c→(cellsC l)[x * 3]? = some (.string c.k)∧(cellsC l)[x * 3+1]? = some (.int .i64 c.s)∧(cellsC l)[x * 3+2]? = some (.string c.v)
 | [],x,c,h=>by simp at h
 | d::l,0,c,h=>by simp at h;subst h;simp [cellsC]
 | d::l,x+1,c,h=>by
  rw [show (x+1) * 3=x * 3+1+1+1 by omega,show x * 3+1+1+1+1=(x * 3+1)+1+1+1 by omega,show x * 3+1+1+1+2=(x * 3+2)+1+1+1 by omega]
  simp only [cellsC,List.cons_append,List.nil_append,List.getElem?_cons_succ]
  exact cellsC_get l x c (by simpa using h)
/-- What two layings in one row leave of it. -/
theorem lay_shift {A vs r:List Value}{a:Nat}(h:a+vs.length+r.length≤A.length):(layL (layL A (a+vs.length) r) a vs).take (a+vs.length+r.length)=A.take a++vs++r:=by
 have e1:(layL A (a+vs.length) r).take a=A.take a:=by
  unfold layL
  rw [List.append_assoc,List.take_append_of_le_length (by rw [List.length_take];omega),List.take_take,Nat.min_eq_left (by omega)]
 have e2:(layL A (a+vs.length) r).drop (a+vs.length)=r++A.drop (a+vs.length+r.length):=by
  have e3:(A.take (a+vs.length)).length=a+vs.length:=by rw [List.length_take];omega
  unfold layL
  rw [List.append_assoc]
  exact List.drop_left' e3
 have e4:(A.take a++vs++r).length=a+vs.length+r.length:=by simp only [List.length_append,List.length_take];omega
 generalize layL A (a+vs.length) r=B at e1 e2 ⊢
 unfold layL
 rw [e1,e2,← List.append_assoc,← e4,List.take_left]
theorem take_of_get {L A:List Value}(_:L.length≤A.length)(h:∀ (j:Nat)(v:Value),L[j]? = some v→A[j]? = some v):A.take L.length=L:=by
 apply List.ext_getElem?
 intro j
 rw [List.getElem?_take]
 split
 ·rename_i hj
  rw [List.getElem?_eq_getElem hj]
  exact h j _ (List.getElem?_eq_getElem hj)
 ·rename_i hj
  rw [List.getElem?_eq_none (by omega)]
/-- A page in memory: it begins its block. -/
def PgB (w:World)(p:Pg):Prop:=p.o=0∧p.l≠[]∧RowB w 132 3 p.g p.l.length p.cap (cellsC p.l)
theorem PgB.kept {S:Nat→Prop}{w w':World}{p:Pg}(h:PgB w p)(K:Kept S w w')(hS:¬ S p.g):PgB w' p:=⟨h.1,h.2.1,h.2.2.kept K hS⟩
theorem PgB.ok {w:World}{p:Pg}(h:PgB w p):p.Ok w:=by
 refine ⟨h.2.1,fun x c hc=>?_⟩
 obtain ⟨h1,h2,h3⟩:=cellsC_get p.l x c hc
 rw [h.1,Nat.zero_add]
 exact ⟨h.2.2.cell h1,h.2.2.cell h2,h.2.2.cell h3⟩
def insAt (l:List Cel)(i:Nat)(c:Cel):List Cel:=l.take i++c::l.drop i
theorem insAt_length {l:List Cel}{i:Nat}{c:Cel}(h:i≤l.length):(insAt l i c).length=l.length+1:=by
 unfold insAt;simp;omega
theorem insAt_ne (l:List Cel)(i:Nat)(c:Cel):insAt l i c≠[]:=by
 unfold insAt;simp
theorem cellsC_ins (l:List Cel)(i:Nat)(c:Cel):cellsC (insAt l i c)=(cellsC l).take (i * 3)++cellsC [c]++(cellsC l).drop (i * 3):=by
 unfold insAt
 rw [cellsC_take,cellsC_drop,show c::l.drop i=[c]++l.drop i from rfl,cellsC_append,cellsC_append,List.append_assoc]
theorem pinsert_any {w:World}{p:Pg}{i vb vc:Nat}{c:Cel}(H:PgB w p)(hm:p.l.length≤1000)(hi:i≤p.l.length)(hA:w.heap[vb]? = some (.cells #[.string c.k,.int .i64 c.s,.string c.v] 132 (0,0)))(hne:vb≠p.g) :
  Calls Tryz.prog 206 #[p.val,.int .i64 i,.slice (some ⟨vb,0,none⟩) 1 vc] w fun e w'=>∃ p':Pg,e = .returned p'.val∧p'.l=insAt p.l i c∧PgB w' p'∧(p'.g=p.g∨w.heap.size≤p'.g)∧Kept (fun b=>b=p.g) w w':=by
 obtain ⟨g,o,l,cap⟩:=p
 obtain ⟨h0,h1,hR⟩:=H
 simp only at h0 h1 hR hm hi hne ⊢
 subst h0
 unfold Pg.val
 simp only
 obtain ⟨i0,hi0,z0,s0,b0⟩:=info_132
 have hlen:(cellsC l).length=l.length * 3:=cellsC_length l
 have hlc:(cellsC [c]).length=3:=by rw [cellsC_length];rfl
 have hone:allOne (cellsC l)=true:=allOne_iff.2 (cellsC_one _)
 have hone1:allOne (cellsC [c])=true:=allOne_iff.2 (cellsC_one _)
 have hvs:∀ (j:Nat) (v:Value),(cellsC [c])[j]? = some v→(#[Value.string c.k,.int .i64 c.s,.string c.v])[0+j]? = some v:=fun j v hj=>by
  rw [Nat.zero_add]
  simpa [cellsC] using hj
 have hvb:vb<w.heap.size:=(Array.getElem?_eq_some_iff.1 hA).1
 rcases Nat.lt_or_ge i l.length with hlt | hge
 ·have hR' := hR
  obtain ⟨_,h2,C,hg,h3,h4⟩:=hR
  have hcs:∀ (j:Nat) (v:Value),(cellsC l)[j]? = some v→C[0+j]? = some v:=fun j v hj=>by
   rw [← h4,List.getElem?_take] at hj
   split at hj
   ·rw [Nat.zero_add];simpa using hj
   ·cases hj
  have e4:(cellsC (insAt l i c)).length=(l.length+1) * 3:=by rw [cellsC_length,insAt_length (by omega)]
  rcases Nat.lt_or_ge cap (l.length+1) with hc | hc
  ·refine (insert_grow g 0 l.length cap i vb 0 vc C _ 132 132 (0, 0) (0, 0) (cellsC l) (cellsC [c]) w hg hA hlt (by unfold appendMax; omega) h2 hc hlen hcs hone hlc hvs hone1).mono ?_
   rintro e w' ⟨k,A,rfl,hh,e1,e2,e3,hs,hget⟩
   rw [← cellsC_ins] at hget
   refine ⟨⟨w.heap.size,0,insAt l i c,l.length+1+k⟩,by simp only [insAt_length (show i≤l.length by omega)],rfl,⟨rfl,insAt_ne _ _ _,cellsC_length _,?_,A,?_,?_,?_⟩,.inr (Nat.le_refl _),⟨e1,e2,e3,by rw [hh];simp,fun q hq _=>by rw [hh,Array.getElem?_push];rw [if_neg (by omega)]⟩⟩
   ·rw [insAt_length (by omega)];simp only;omega
   ·rw [hh];exact Array.getElem?_push_size
   ·simp only;omega
   ·rw [← cellsC_length]
    exact take_of_get (by rw [e4];simp only [Array.length_toList];omega) (fun j v hj=>by simpa using hget j v hj)
  ·refine (insert_shift g 0 l.length cap i vb 0 vc C #[.string c.k, .int .i64 c.s, .string c.v] 132 132 (0, 0) (0, 0) (cellsC l) (cellsC [c]) w hg (fun j _ q => absurd q.2 (Nat.not_lt_zero _)) hA (fun j _ q => absurd q.2 (Nat.not_lt_zero _)) (by simp [World.frozen?, hA]) hne hlt hc (by unfold appendMax; omega) (by omega) hlen hcs hone hlc hvs hone1).mono ?_
   rintro e w' ⟨rfl,rfl⟩
   have hgl:g<w.heap.size:=(Array.getElem?_eq_some_iff.1 hg).1
   refine ⟨⟨g,0,insAt l i c,cap⟩,by simp only [insAt_length (show i≤l.length by omega)],rfl,⟨rfl,insAt_ne _ _ _,cellsC_length _,?_,⟨layL (layL C.toList (0+(i+1) * 3) ((cellsC l).drop (i * 3))) (0+i * 3) (cellsC [c])⟩,?_,?_,?_⟩,.inl rfl,⟨rfl,rfl,rfl,by simp,fun q hq hn=>Array.getElem?_setIfInBounds_ne (fun e=>hn e.symm)⟩⟩
   ·rw [insAt_length (by omega)];exact hc
   ·simp only [Array.getElem?_setIfInBounds_self,if_pos hgl]
   ·have hd : ((cellsC l).drop (i * 3)).length = (l.length - i) * 3 := by rw [List.length_drop, hlen]; omega
    simp only [List.size_toArray]
    rw [layL_length,layL_length]
    ·simpa using h3
    ·rw [hd];simp only [Array.length_toList];omega
    ·rw [layL_length (by rw [hd];simp only [Array.length_toList];omega),hlc];simp only [Array.length_toList];omega
   ·have hd : ((cellsC l).drop (i * 3)).length = (l.length - i) * 3 := by rw [List.length_drop, hlen]; omega
    have:=lay_shift (A:=C.toList) (vs:=cellsC [c]) (r:=(cellsC l).drop (i * 3)) (a:=i * 3) (by rw [hlc,hd];simp only [Array.length_toList];omega)
    rw [hlc,hd] at this
    simp only [insAt_length (show i≤l.length by omega)]
    rw [cellsC_ins,show 0+(i+1) * 3=i * 3+3 by omega,Nat.zero_add,show (l.length+1) * 3=i * 3+3+(l.length - i) * 3 by omega,this,← h4,List.take_take,Nat.min_eq_left (by omega)]
 ·have hin : i = l.length := by omega
  subst hin
  obtain ⟨g',cap',w1,hrun,hrow,hgg,K⟩:=rowb_append (ty:=305) Tryz.underlying305 hi0 z0 s0 b0 rfl hR ⟨vb,0,none⟩ 1 vc (cellsC [c]) (by rw [hlc]) (fun j u hj=>by
   rw [add_mid]
   simp only [World.cell?,hA]
   have:=hvs j u hj
   simpa using this) (cellsC_one _) (by omega) (by omega)
  rw [← append_types Tryz.underlying305 Tryz.underlying65] at hrun
  refine (insert_end g 0 l.length cap vb 0 vc _ w w1 hrun).mono ?_
  rintro e w' ⟨rfl,rfl⟩
  have he:insAt l l.length c=l++[c]:=by simp [insAt]
  refine ⟨⟨g',0,insAt l l.length c,cap'⟩,by simp only [insAt_length (Nat.le_refl _)],rfl,⟨rfl,insAt_ne _ _ _,?_⟩,?_,K.mono (fun k _ h=>h.1)⟩
  ·simp only [insAt_length (Nat.le_refl _)]
   rw [he,cellsC_append]
   exact hrow
  ·rcases hgg with h | h
   ·exact .inl h
   ·exact .inr (by simp only;omega)
end
/- slices.Replace of one page by two. -/
section
set_option maxRecDepth 100000
open Go.RowKit Go.Lib Go.Eng

set_option maxHeartbeats 4000000 in
theorem replace_end (b c k vb vc:Nat)(a':Option Addr)(c':Nat)(w w1:World)(hnc:k+1≤c)(hn:k≤100000)
  (h:(Builtin.append_ #[206,206] 206 #[.slice (some ⟨b,0,none⟩) k c,.slice (some ⟨vb,0,none⟩) 2 vc]).run Tryz.prog w = .ok (.slice a' (k+2) c') w1) :
  Calls Tryz.prog 207 #[.slice (some ⟨b,0,none⟩) (k+1) c,.int .i64 k,.int .i64 ((k+1:Nat):Int),.slice (some ⟨vb,0,none⟩) 2 vc] w fun e w'=>e = .returned (.slice a' (k+2) c')∧w'=w1:=by
 have mixed:Tryz.prog.follows .mixedOrders=true:=by kernel_rfl
 have h1:¬ ((k:Int)=((k+1:Nat):Int)):=by omega
 have h2:(k:Int)≤((k+1:Nat):Int):=by omega
 have h3:k≤c:=by omega
 have h4:k≤k+1:=by omega
 have h5:¬ (((k+2:Nat):Int)<((k+1:Nat):Int)):=by omega
 have h6:(0:Int)≤((k+1:Nat):Int):=by omega
 have h7:(0:Int)≤(k:Int):=by omega
 have h8:((k+1:Nat):Int).toNat=k+1:=by omega
 have h9:(((k+1:Nat):Int)≤((k+1:Nat):Int)):=by omega
 have h10:((k+1:Nat):Int)≤(c:Int):=by omega
 go_enter Tryz.func207,Tryz.ntmps207
 go_wp2_with (at_builtin;refine Lib.wpList_append_run _ rfl _ _ _ _ rfl _ _ rfl rfl _ _ h ?_)
 all_goals
  go_ret
  exact ⟨rfl,rfl⟩

theorem loads1 {w:World}{b o n:Nat}{C:Array Value}{t:TypeId}{fr:Nat × Nat}(hb:w.heap[b]? = some (.cells C t fr)){cs:List Value}(hcl:cs.length=n)(hcs:∀ (j:Nat)(v:Value),cs[j]? = some v→C[o+j]? = some v) :
  (loadCells ⟨b,o,none⟩ (n * 1)).run Tryz.prog w = .ok cs.toArray w:=by
 rw [Nat.mul_one]
 exact loads3 hb hcl hcs
theorem frozen0 {w:World}{b:Nat}{C:Array Value}{t:TypeId}(hb:w.heap[b]? = some (.cells C t (0,0)))(j:Nat):w.frozen? ⟨b,j,none⟩=false:=by
 simp [World.frozen?,hb]
theorem shape0 {w:World}{b:Nat}{C:Array Value}{t:TypeId}{fr:Nat × Nat}(hb:w.heap[b]? = some (.cells C t fr)):w.shape? b=some (t,C.size):=by
 simp only [World.shape?,hb]
set_option maxHeartbeats 4000000 in
theorem replace_shift (b d c k vb vc:Nat)(C D:Array Value)(cs vs:List Value)(w:World)(hn:k+d≤100000)(hd:0<d)(hnc:k+d+2≤c)(hcC:c≤C.size)
  (hb:w.heap[b]? = some (.cells C 305 (0,0)))(hA:w.heap[vb]? = some (.cells D 305 (0,0)))(hne:vb≠b)
  (hcl:cs.length=d)(hcs:∀ (j:Nat)(v:Value),cs[j]? = some v→C[k+1+j]? = some v)(h1c:allOne cs=true)
  (hvl:vs.length=2)(hvs:∀ (j:Nat)(v:Value),vs[j]? = some v→D[0+j]? = some v)(h1v:allOne vs=true) :
  Calls Tryz.prog 207 #[.slice (some ⟨b,0,none⟩) (k+1+d) c,.int .i64 k,.int .i64 ((k+1:Nat):Int),.slice (some ⟨vb,0,none⟩) 2 vc] w fun e w'=>
   e = .returned (.slice (some ⟨b,0,none⟩) (k+2+d) c)∧w'={ w.drew.drew with heap:=w.heap.setIfInBounds b (.cells ⟨layL (layL C.toList (k+2) cs) k vs⟩ 305 (0,0)) }:=by
 have hv3:2≤D.size:=by
  have:=hvs 1 _ (List.getElem?_eq_getElem (by omega))
  rcases Nat.lt_or_ge (0+1) D.size with h | h
  ·omega
  ·rw [Array.getElem?_eq_none h] at this;cases this
 have hlt:b<w.heap.size:=(Array.getElem?_eq_some_iff.1 hb).1
 have hov:∀ lb cb,(callFunc 289 #[.slice (some ⟨b,k+2,none⟩) lb cb,.slice (some ⟨vb,0,none⟩) 2 vc]).run Tryz.prog w.drew = .ok (.value (.bool false)) w.drew:=fun lb cb=>by
  rw [run_callFunc_extern Tryz.func289 (by kernel_rfl) (by kernel_rfl) (by kernel_rfl) (e:=Extern.SlicesOverlaps.overlaps #[206,206] #[305]) (by kernel_rfl),
   Lib.run_overlaps_apart w.drew 206 305 305 Tryz.underlying206 1 Tryz.sizeOf305 ⟨b,k+2,none⟩ ⟨vb,0,none⟩ lb cb 2 vc (Ne.symm hne) 305 305 C.size D.size (shape0 (w:=w.drew) hb) (shape0 (w:=w.drew) hA) (by omega) (frozen0 (w:=w.drew) hb _) (frozen0 (w:=w.drew) hb _)]
  rfl
 have hC1s:(layL C.toList (k+2) cs).length=C.size:=by
  rw [layL_length (by rw [hcl];simp only [Array.length_toList];omega)]
  simp
 obtain ⟨W1,hW1⟩:∃ W1:World,W1={ w.drew.drew with heap:=w.heap.setIfInBounds b (.cells ⟨layL C.toList (k+2) cs⟩ 305 (0,0)) }:=⟨_,rfl⟩
 have hcp1:∀ ty dc sc,(Builtin.copy_ #[206,206] ty #[.slice (some ⟨b,k+2,none⟩) d dc,.slice (some ⟨b,k+1,none⟩) d sc]).run Tryz.prog w.drew.drew = .ok (goInt d) W1:=fun ty dc sc=>by
  refine run_copy3 (e:=305) (size:=1) (V:=cs) rfl Tryz.underlying206 Tryz.sizeOf305 (Nat.min_self _) ?_ ?_
  ·exact loads1 (w:=w.drew.drew) (t:=305) (fr:=(0,0)) hb hcl hcs
  ·have := run_storeCells (P := Tryz.prog) (w := w.drew.drew) hb (fun j _ q => absurd q.2 (Nat.not_lt_zero _)) cs (k + 2) 0 h1c (by omega)
   rw [hW1]
   exact this
 obtain ⟨W2,hW2⟩:∃ W2:World,W2={ w.drew.drew with heap:=w.heap.setIfInBounds b (.cells ⟨layL (layL C.toList (k+2) cs) k vs⟩ 305 (0,0)) }:=⟨_,rfl⟩
 have hcp2:∀ ty dc q,k+2+d - k=q→(Builtin.copy_ #[206,206] ty #[.slice (some ⟨b,k,none⟩) q dc,.slice (some ⟨vb,0,none⟩) 2 vc]).run Tryz.prog W1 = .ok (goInt (2:Nat)) W2:=fun ty dc q hq=>by
  refine run_copy3 (e:=305) (size:=1) (V:=vs) rfl Tryz.underlying206 Tryz.sizeOf305 (by simp only [Nat.min_def];split <;> omega) ?_ ?_
  ·refine loads1 (w := W1) (t := 305) (fr := (0, 0)) (C := D) ?_ hvl hvs
   rw [hW1]
   simp only [Array.getElem?_setIfInBounds_ne (Ne.symm hne)]
   exact hA
  ·have h1:W1.heap[b]? = some (.cells ⟨layL C.toList (k+2) cs⟩ 305 (0,0)):=by
    rw [hW1]
    simp only [Array.getElem?_setIfInBounds_self,if_pos hlt]
   have:=run_storeCells (P:=Tryz.prog) (w:=W1) h1 (fun j _ q=>absurd q.2 (Nat.not_lt_zero _)) vs k 0 h1v (by simp only [List.size_toArray];omega)
   refine this.trans ?_
   rw [hW2,hW1]
   simp only [Array.setIfInBounds_setIfInBounds,Nat.add_zero]
 rw [← hW2]
 clear hW1 hW2 hC1s hlt hv3 hvs hvl h1v h1c hcs hcl hA hb hne hcC
 have mixed:Tryz.prog.follows .mixedOrders=true:=by kernel_rfl
 have h1:¬ (((k+1:Nat):Int)=((k+1+d:Nat):Int)):=by omega
 have h2:(k:Int)≤((k+1:Nat):Int):=by omega
 have h3:k≤c:=by omega
 have h4:k≤k+1:=by omega
 have h6:(0:Int)≤((k+1:Nat):Int):=by omega
 have h7:(0:Int)≤(k:Int):=by omega
 have h8:((k+1:Nat):Int).toNat=k+1:=by omega
 have h10:((k+1:Nat):Int)≤(c:Int):=by omega
 have h11:((k+1:Nat):Int)≤((k+1+d:Nat):Int):=by omega
 have h12:¬ ((k:Int)=((k+1+d:Nat):Int)):=by omega
 have g1:((k:Int)+2).toNat=k+2:=by omega
 have g2:((k:Int)+1).toNat=k+1:=by omega
 have g3:(0:Int)≤(k:Int)+2:=by omega
 have g4:(0:Int)≤(k:Int)+1:=by omega
 have g5:(k:Int)+2≤(k:Int)+2+(d:Int):=by omega
 have g6:(k:Int)+1≤(k:Int)+1+(d:Int):=by omega
 have g7:¬ (c=k+2):=by omega
 have g8:¬ (c=k+1):=by omega
 have g9:k+2+d - (k+2)=d:=by omega
 have g10:k+1+d - (k+1)=d:=by omega
 have g11:(k:Int)≤(k:Int)+2+(d:Int):=by omega
 have g12:¬ (c=k):=by omega
 have h20:IntKind.i64.wrap ((k:Int)+2)=((k+2:Nat):Int):=by rw [IntKind.wrap_i64];omega
 have h21:IntKind.i64.wrap (((k+2:Nat):Int)+(d:Int))=((k+2+d:Nat):Int):=by rw [IntKind.wrap_i64];omega
 go_enter Tryz.func207,Tryz.ntmps207
 go_wp2_with fail
 go_region_o
 go_wp2_with (simp only [hov])
 go_region_law_o (refine step_copy_runI rfl _ _ 206 206 rfl _ _ (by simp [Act.eval,Act.put]) (by simp [Act.eval,Act.put]) (hcp1 _ _ _) ?_)
 go_wp2_with (at_builtin;refine wpList_copy_runI _ rfl _ _ 206 206 rfl _ _ rfl rfl (hcp2 _ _ _ (by omega)) ?_)
 go_ret
 exact ⟨rfl,rfl⟩
end
/- slices.Replace of one page by two: a new row. -/
section
set_option maxRecDepth 100000
open Go.RowKit Go.Lib Go.Eng

set_option maxHeartbeats 4000000 in
theorem replace_walk (b d c k vb vc N G:Nat)(w W0 W1 W2:World)(hn:k+d≤100000)(hd:0<d)(hc:c<k+2+d)(hck:k+1+d≤c)(hG:k+2+d≤G)
  (hap:∀ x:Int,x=(d:Int)+2→(Builtin.append_ #[206,3] 206 #[.slice (some ⟨b,0,none⟩) k c,.int .i64 x]).run Tryz.prog w.drew = .ok (.slice (some ⟨N,0,none⟩) (k+2+d) G) W0)
  (hcp1:∀ ty q dc,q=d+2→(Builtin.copy_ #[206,206] ty #[.slice (some ⟨N,k,none⟩) q dc,.slice (some ⟨vb,0,none⟩) 2 vc]).run Tryz.prog W0 = .ok (goInt (2:Nat)) W1)
  (hcp2:∀ ty dc sc,(Builtin.copy_ #[206,206] ty #[.slice (some ⟨N,k+2,none⟩) d dc,.slice (some ⟨b,k+1,none⟩) d sc]).run Tryz.prog W1.drew = .ok (goInt d) W2) :
  Calls Tryz.prog 207 #[.slice (some ⟨b,0,none⟩) (k+1+d) c,.int .i64 k,.int .i64 ((k+1:Nat):Int),.slice (some ⟨vb,0,none⟩) 2 vc] w fun e w'=>e = .returned (.slice (some ⟨N,0,none⟩) (k+2+d) G)∧w'=W2:=by
 have mixed:Tryz.prog.follows .mixedOrders=true:=by kernel_rfl
 have h1:¬ (((k+1:Nat):Int)=((k+1+d:Nat):Int)):=by omega
 have h2:(k:Int)≤((k+1:Nat):Int):=by omega
 have h3:k≤c:=by omega
 have h4:k≤k+1:=by omega
 have h6:(0:Int)≤((k+1:Nat):Int):=by omega
 have h7:(0:Int)≤(k:Int):=by omega
 have h8:((k+1:Nat):Int).toNat=k+1:=by omega
 have h10:((k+1:Nat):Int)≤(c:Int):=by omega
 have h11:((k+1:Nat):Int)≤((k+1+d:Nat):Int):=by omega
 have h12:¬ ((k:Int)=((k+1+d:Nat):Int)):=by omega
 have g1:((k:Int)+2).toNat=k+2:=by omega
 have g2:((k:Int)+1).toNat=k+1:=by omega
 have g3:(0:Int)≤(k:Int)+2:=by omega
 have g4:(0:Int)≤(k:Int)+1:=by omega
 have g5:(k:Int)+2≤(k:Int)+2+(d:Int):=by omega
 have g6:(k:Int)+1≤(k:Int)+1+(d:Int):=by omega
 have g7:¬ (G=k+2):=by omega
 have g8:¬ (c=k+1):=by omega
 have g9:k+2+d - (k+2)=d:=by omega
 have g10:k+1+d - (k+1)=d:=by omega
 have g11:(k:Int)≤(k:Int)+2+(d:Int):=by omega
 have g12:¬ (c=k):=by omega
 have g13:¬ (G=k):=by omega
 have g14:(c:Int)<(k:Int)+2+(d:Int):=by omega
 have g15:k+2+d - k=d+2:=by omega
 have h20:IntKind.i64.wrap ((k:Int)+2)=((k+2:Nat):Int):=by rw [IntKind.wrap_i64];omega
 have h21:IntKind.i64.wrap (((k+2:Nat):Int)+(d:Int))=((k+2+d:Nat):Int):=by rw [IntKind.wrap_i64];omega
 have h22:IntKind.i64.wrap ((k:Int)+2+(d:Int) - (k:Int))=(d:Int)+2:=by rw [IntKind.wrap_i64];omega
 go_enter Tryz.func207,Tryz.ntmps207
 go_wp2_with fail
 go_region_o
 go_wp2_with (first
  | (at_builtin;refine Lib.wpList_append_run _ rfl _ _ _ _ rfl _ _ rfl rfl _ _ (hap _ (by omega)) ?_)
  | (at_builtin;refine wpList_copy_runI _ rfl _ _ 206 206 rfl _ _ rfl rfl (hcp1 _ _ _ (by omega)) ?_))
 go_region_law_o (refine step_copy_runI rfl _ _ 206 206 rfl _ _ (by simp [Act.eval,Act.put]) (by simp [Act.eval,Act.put]) (hcp2 _ _ _) ?_)
 go_wp2
 go_ret
 exact ⟨rfl,rfl⟩
end
/- slices.Replace of one page by two, in any room. -/
section
set_option maxRecDepth 100000
open Go.RowKit Go.Lib Go.Eng

set_option maxHeartbeats 4000000 in
theorem replace_grow (b d c k vb vc:Nat)(C D:Array Value)(cs vs:List Value)(w:World)(hn:k+d≤100000)(hd:0<d)(hc:c<k+2+d)(hck:k+1+d≤c)
  (hb:w.heap[b]? = some (.cells C 305 (0,0)))(hA:w.heap[vb]? = some (.cells D 305 (0,0)))
  (hcl:cs.length=k+1+d)(hcs:∀ (j:Nat)(v:Value),cs[j]? = some v→C[0+j]? = some v)(h1c:allOne cs=true)
  (hvl:vs.length=2)(hvs:∀ (j:Nat)(v:Value),vs[j]? = some v→D[0+j]? = some v)(h1v:allOne vs=true) :
  Calls Tryz.prog 207 #[.slice (some ⟨b,0,none⟩) (k+1+d) c,.int .i64 k,.int .i64 ((k+1:Nat):Int),.slice (some ⟨vb,0,none⟩) 2 vc] w fun e w'=>∃ (G:Nat) (A:Array Value),
   e = .returned (.slice (some ⟨w.heap.size,0,none⟩) (k+2+d) G)∧k+2+d≤G∧w'.heap=w.heap.push (.cells A 305 (0,0))∧w'.os=w.os∧w'.tape=w.tape∧w'.output=w.output ∧
   G≤A.size∧A.toList.take (k+2+d)=cs.take k++vs++cs.drop (k+1):=by
 have q1:k+(d+2)=k+2+d:=by omega
 have q2:k≤appendMax:=by unfold appendMax;omega
 have q3:d+2≤appendMax:=by unfold appendMax;omega
 have q4:c<k+(d+2):=by omega
 have hbw:b<w.heap.size:=(Array.getElem?_eq_some_iff.1 hb).1
 have hvw:vb<w.heap.size:=(Array.getElem?_eq_some_iff.1 hA).1
 have htk:(cs.take k).length=k:=by rw [List.length_take,hcl];omega
 have hdl:(cs.drop (k+1)).length=d:=by rw [List.length_drop,hcl];omega
 obtain ⟨inf,hinf,hbytes,Z,hZ,hZs,hZv⟩:∃ inf,Tryz.prog.info? 305=some inf∧inf.bytes≤appendMax∧∃ Z,inf.zero=some Z∧Z.cells.size=1∧∀ w',(zeroValue 305).run Tryz.prog w' = .ok Z w':=
  ⟨_,rfl,by decide,_,rfl,rfl,Tryz.zeroValue305⟩
 have zs:∀ q,(Builtin.zeroCells Z.cells q).size=q * 1:=fun q=>by rw [← Array.length_toList,zeroCells_eq,List.length_flatten];simp [hZs]
 obtain ⟨r,hap⟩:=run_append_grow' (P:=Tryz.prog) (st:=206) (e:=305) (size:=1) (n:=d+2) (len:=k) (cap:=c) («as» := #[206,3]) (vs:=#[.slice (some ⟨b,0,none⟩) k c,.int .i64 (Int.ofNat (d+2))]) (ty:=206)
  (base:=some ⟨b,0,none⟩) (zeros:=true) (N:=Builtin.zeroCells Z.cells (d+2)) (OLD:=(cs.take k).toArray) (i:=inf) (Z:=Z) (w:=w.drew)
  rfl rfl rfl Tryz.underlying206 rfl hinf hbytes (.inr ⟨3,_,rfl,Tryz.underlying3,rfl⟩) q3 q2 hZv (fun _=>⟨⟨_,rfl⟩,rfl⟩) (fun q=>by cases q)
  (zs _) (fun w' hw' => by
   have:=loads1 (w:=w') (b:=b) (o:=0) (n:=k) (t:=305) (fr:=(0,0)) (C:=C) (by rw [hw'];exact hb) htk (fun j v hj=>by
    rw [List.getElem?_take] at hj
    split at hj
    ·exact hcs j v hj
    ·cases hj)
   exact this) q4
 rw [q1] at hap
 obtain ⟨A0,hA0⟩:∃ A0:Array Value,A0=(cs.take k).toArray++Builtin.zeroCells Z.cells (d+2)++Builtin.zeroCells Z.cells r:=⟨_,rfl⟩
 have hA0s:A0.size=k+2+d+r:=by
  rw [hA0]
  simp only [Array.size_append,List.size_toArray,htk,zs]
  omega
 have hA0t:A0.toList.take k=cs.take k:=by
  rw [hA0]
  simp only [Array.toList_append,List.append_assoc]
  exact List.take_left' htk
 rw [← hA0] at hap
 clear hA0 zs hinf hbytes hZ hZs hZv
 obtain ⟨W0,hW0⟩:∃ W0:World,W0=w.drew.drew.alloc (.cells A0 305):=⟨_,rfl⟩
 have hap':∀ x:Int,x=(d:Int)+2→(Builtin.append_ #[206,3] 206 #[.slice (some ⟨b,0,none⟩) k c,.int .i64 x]).run Tryz.prog w.drew = .ok (.slice (some ⟨w.heap.size,0,none⟩) (k+2+d) (k+2+d+r)) W0:=fun x hx=>by
  rw [hx,hW0]
  exact hap
 have g0:W0.heap[w.heap.size]? = some (.cells A0 305 (0,0)):=by
  rw [hW0]
  exact Array.getElem?_push_size
 have g1:∀ q,q<w.heap.size→W0.heap[q]? = w.heap[q]?:=fun q hq=>by rw [hW0];exact Below.heap_alloc w.drew.drew _ q hq
 have gs:w.heap.size<W0.heap.size:=by rw [hW0];simp [World.alloc]
 obtain ⟨L1,hL1⟩:∃ L1,L1=layL A0.toList k vs:=⟨_,rfl⟩
 have hL1s:L1.length=A0.size:=by
  rw [hL1,layL_length (by rw [hvl];simp only [Array.length_toList];omega)]
  simp
 obtain ⟨W1,hW1⟩:∃ W1:World,W1={ W0 with heap:=W0.heap.setIfInBounds w.heap.size (.cells ⟨L1⟩ 305 (0,0)) }:=⟨_,rfl⟩
 have h1:W1.heap[w.heap.size]? = some (.cells ⟨L1⟩ 305 (0,0)):=by
  rw [hW1];simp only [Array.getElem?_setIfInBounds_self,if_pos gs]
 have h1o:∀ q,q<w.heap.size→W1.heap[q]? = w.heap[q]?:=fun q hq=>by
  rw [hW1]
  have:w.heap.size≠q:=by omega
  simp only [Array.getElem?_setIfInBounds_ne this]
  exact g1 q hq
 have hcp1:∀ ty q dc,q=d+2→(Builtin.copy_ #[206,206] ty #[.slice (some ⟨w.heap.size,k,none⟩) q dc,.slice (some ⟨vb,0,none⟩) 2 vc]).run Tryz.prog W0 = .ok (goInt (2:Nat)) W1:=fun ty q dc hq=>by
  refine run_copy3 (e:=305) (size:=1) (V:=vs) rfl Tryz.underlying206 Tryz.sizeOf305 (by simp only [Nat.min_def];split <;> omega) ?_ ?_
  ·exact loads1 (w:=W0) (t:=305) (fr:=(0,0)) (C:=D) (by rw [g1 vb hvw];exact hA) hvl hvs
  ·have := run_storeCells (P := Tryz.prog) (w := W0) g0 (fun j _ q => absurd q.2 (Nat.not_lt_zero _)) vs k 0 h1v (by omega)
   refine this.trans ?_
   rw [hW1,hL1]
   simp only [Nat.add_zero]
 obtain ⟨L2,hL2⟩:∃ L2,L2=layL L1 (k+2) (cs.drop (k+1)):=⟨_,rfl⟩
 have hL2s:L2.length=A0.size:=by
  rw [hL2,layL_length (by rw [hdl];omega),hL1s]
 obtain ⟨W2,hW2⟩:∃ W2:World,W2={ W1.drew with heap:=W1.heap.setIfInBounds w.heap.size (.cells ⟨L2⟩ 305 (0,0)) }:=⟨_,rfl⟩
 have hcp2:∀ ty dc sc,(Builtin.copy_ #[206,206] ty #[.slice (some ⟨w.heap.size,k+2,none⟩) d dc,.slice (some ⟨b,k+1,none⟩) d sc]).run Tryz.prog W1.drew = .ok (goInt d) W2:=fun ty dc sc=>by
  refine run_copy3 (e:=305) (size:=1) (V:=cs.drop (k+1)) rfl Tryz.underlying206 Tryz.sizeOf305 (Nat.min_self _) ?_ ?_
  ·refine loads1 (w:=W1.drew) (t:=305) (fr:=(0,0)) (C:=C) ((h1o b hbw).trans hb) hdl (fun j v hj=>by
    rw [List.getElem?_drop] at hj
    have:=hcs _ v hj
    rwa [Nat.zero_add] at this)
  ·have := run_storeCells (P := Tryz.prog) (w := W1.drew) h1 (fun j _ q => absurd q.2 (Nat.not_lt_zero _)) (cs.drop (k + 1)) (k + 2) 0 (allOne_iff.2 fun v hv => allOne_iff.1 h1c v (List.mem_of_mem_drop hv)) (by simp only [List.size_toArray]; omega)
   refine this.trans ?_
   rw [hW2,hL2]
   rfl
 have hfin:W2.heap=w.heap.push (.cells ⟨L2⟩ 305 (0,0))∧W2.os=w.os∧W2.tape=w.tape∧W2.output=w.output:=by
  rw [hW2,hW1,hW0]
  refine ⟨?_,rfl,rfl,rfl⟩
  simp only [Array.setIfInBounds_setIfInBounds]
  apply Array.ext_getElem?
  intro q
  rw [Array.getElem?_setIfInBounds]
  show _=(w.heap.push _)[q]?
  show (if w.heap.size=q then _ else (w.heap.push (.cells A0 305 (0,0)))[q]?)=_
  by_cases e:w.heap.size=q
  ·subst e
   simp
  ·rw [if_neg e,Array.getElem?_push,Array.getElem?_push,if_neg (by omega),if_neg (by omega)]
 have hget:L2.take (k+2+d)=cs.take k++vs++cs.drop (k+1):=by
  have e1:(cs.take k++vs).length=k+2:=by rw [List.length_append,htk,hvl]
  have e2:L1.take (k+2)=cs.take k++vs:=by
   rw [hL1]
   unfold layL
   rw [hA0t]
   exact List.take_left' e1
  rw [hL2]
  unfold layL
  rw [e2]
  exact List.take_left' (by rw [List.length_append,e1,hdl])
 refine (replace_walk b d c k vb vc w.heap.size (k+2+d+r) w W0 W1 W2 hn hd hc hck (by omega) hap' hcp1 hcp2).mono ?_
 rintro e w' ⟨rfl,rfl⟩
 exact ⟨_,⟨L2⟩,rfl,by omega,hfin.1,hfin.2.1,hfin.2.2.1,hfin.2.2.2,by simp only [List.size_toArray];omega,hget⟩

theorem info_305:∃ i,Tryz.prog.info? 305=some i∧i.zero=some (.slice none 0 0)∧i.size=1∧i.bytes=24:=by
 exact ⟨_,rfl,rfl,rfl,rfl⟩
theorem replace_any {w:World}{g n cap k vb vc:Nat}{xs:List Value}{v1 v2:Value}(R:RowB w 305 1 g n cap xs)(hk:k<n)(hn:n≤100000)(hA:w.heap[vb]? = some (.cells #[v1,v2] 305 (0,0)))(hne:vb≠g)(h1:∀ u∈xs,u.oneCell'=true)(h2:∀ u∈[v1,v2],u.oneCell'=true) :
  Calls Tryz.prog 207 #[.slice (some ⟨g,0,none⟩) n cap,.int .i64 k,.int .i64 ((k+1:Nat):Int),.slice (some ⟨vb,0,none⟩) 2 vc] w fun e w'=>∃ g' cap',e = .returned (.slice (some ⟨g',0,none⟩) (n+1) cap')∧RowB w' 305 1 g' (n+1) cap' (xs.take k++[v1,v2]++xs.drop (k+1))∧(g'=g∨g'=w.heap.size)∧Kept (fun b=>b=g) w w':=by
 obtain ⟨d,rfl⟩:∃ d,n=k+1+d:=⟨n - (k+1),by omega⟩
 obtain ⟨i0,hi0,z0,s0,b0⟩:=info_305
 have hRR:=R
 obtain ⟨hl,hnc,C,hg,hC,ht⟩:=R
 rw [Nat.mul_one] at hl hC ht
 have hgl:g<w.heap.size:=(Array.getElem?_eq_some_iff.1 hg).1
 have hcs:∀ (j:Nat) (v:Value),xs[j]? = some v→C[0+j]? = some v:=fun j v hj=>by
  rw [← ht,List.getElem?_take] at hj
  split at hj
  ·rw [Nat.zero_add];simpa using hj
  ·cases hj
 have hvs:∀ (j:Nat) (v:Value),[v1,v2][j]? = some v→(#[v1,v2])[0+j]? = some v:=fun j v hj=>by
  rw [Nat.zero_add];simpa using hj
 have hlen:(xs.take k++[v1,v2]++xs.drop (k+1)).length=(k+1+d+1) * 1:=by
  simp only [List.length_append,List.length_take,List.length_drop,hl,List.length_cons,List.length_nil];omega
 have ho1:allOne xs=true:=allOne_iff.2 h1
 have ho2:allOne [v1,v2]=true:=allOne_iff.2 h2
 rcases Nat.eq_zero_or_pos d with hd | hd
 ·subst hd
  have hP:=hRR.part (k:=k) (c:=cap) (by omega) (by omega) (Nat.le_refl _)
  obtain ⟨g',cap',w1,hrun,hrow,hgg,K⟩:=rowb_append (ty:=206) Tryz.underlying206 hi0 z0 s0 b0 rfl hP ⟨vb,0,none⟩ 2 vc [v1,v2] rfl (fun j u hj=>by
   rw [add_mid]
   simp only [World.cell?,hA]
   exact hvs j u hj) h2 (by omega) (by omega)
  refine (replace_end g cap k vb vc _ cap' w w1 (by omega) (by omega) hrun).mono ?_
  rintro e w' ⟨rfl,rfl⟩
  refine ⟨g',cap',rfl,?_,hgg,K.mono (fun q _ h=>h.1)⟩
  have hnil:xs.drop (k+1)=[]:=List.drop_of_length_le (by omega)
  rw [hnil,List.append_nil]
  rw [Nat.mul_one] at hrow
  exact hrow
 ·have hdl : (xs.drop (k + 1)).length = d := by rw [List.length_drop, hl]; omega
  have hod:allOne (xs.drop (k+1))=true:=allOne_iff.2 fun v hv=>h1 v (List.mem_of_mem_drop hv)
  rcases Nat.lt_or_ge cap (k+2+d) with hc | hc
  ·refine (replace_grow g d cap k vb vc C _ xs [v1, v2] w (by omega) hd hc (by omega) hg hA hl hcs ho1 rfl hvs ho2).mono ?_
   rintro e w' ⟨G,A,rfl,hG,hh,e1,e2,e3,hs,htk⟩
   refine ⟨w.heap.size,G,by rw [show k+1+d+1=k+2+d by omega],⟨hlen,by omega,A,by rw [hh];exact Array.getElem?_push_size,by omega,?_⟩,.inr rfl,⟨e1,e2,e3,by rw [hh];simp,fun q hq _=>by rw [hh,Array.getElem?_push];rw [if_neg (by omega)]⟩⟩
   rw [← htk]
   congr 1
   omega
  ·refine (replace_shift g d cap k vb vc C _ (xs.drop (k+1)) [v1,v2] w (by omega) hd (by omega) hC hg hA hne hdl (fun j v hj=>by
    rw [List.getElem?_drop] at hj
    have:=hcs _ v hj
    rwa [Nat.zero_add] at this) hod rfl hvs ho2).mono ?_
   rintro e w' ⟨rfl,rfl⟩
   refine ⟨g,cap,by rw [show k+1+d+1=k+2+d by omega],⟨hlen,by omega,⟨layL (layL C.toList (k+2) (xs.drop (k+1))) k [v1,v2]⟩,?_,?_,?_⟩,.inl rfl,⟨rfl,rfl,rfl,by simp,fun q hq hn=>Array.getElem?_setIfInBounds_ne (fun e=>hn e.symm)⟩⟩
   ·simp only [Array.getElem?_setIfInBounds_self,if_pos hgl]
   ·simp only [List.size_toArray]
    rw [layL_length,layL_length]
    ·simpa using hC
    ·rw [hdl];simp only [Array.length_toList];omega
    ·rw [layL_length (by rw [hdl];simp only [Array.length_toList];omega)];simp only [Array.length_toList,List.length_cons,List.length_nil];omega
   ·have := lay_shift (A := C.toList) (vs := [v1, v2]) (r := xs.drop (k + 1)) (a := k) (by rw [hdl]; simp only [Array.length_toList, List.length_cons, List.length_nil]; omega)
    simp only [List.length_cons,List.length_nil,Nat.zero_add,Nat.reduceAdd,hdl] at this
    rw [show (k+1+d+1) * 1=k+2+d by omega,this,← ht,List.take_take,Nat.min_eq_left (by omega)]
end
/- slices.Clone of a page's cells, and a page that is parted. -/
section
set_option maxRecDepth 100000
open Go.RowKit Go.Lib Go.Eng

set_option maxHeartbeats 4000000 in
theorem clone_any {w:World}{g o c:Nat}{l:List Cel}(hl:l.length≤1000)(hs:∀ (j:Nat)(u:Value),(cellsC l)[j]? = some u→w.cell? ⟨g,o+j,none⟩=some u) :
  Calls Tryz.prog 292 #[.slice (some ⟨g,o,none⟩) l.length c] w fun e w'=>∃ q cap,e = .returned (.slice (some ⟨q,0,none⟩) l.length cap)∧RowB w' 132 3 q l.length cap (cellsC l)∧w.heap.size≤q∧Kept (fun _=>False) w w':=by
 obtain ⟨i0,hi0,z0,s0,b0⟩:=info_132
 obtain ⟨W0,hW0⟩:∃ W0:World,w.alloc (Obj.cells #[] 132)=W0:=⟨_,rfl⟩
 have k0:Kept (fun _=>False) w W0:=by rw [← hW0];exact (Kept.refl _ _).alloc _
 have R0:RowB W0 132 3 w.heap.size 0 0 []:=⟨rfl,Nat.le_refl _,#[],by rw [← hW0];exact heap_alloc_new w _,by simp,rfl⟩
 obtain ⟨g',cap',w1,hrun,hrow,hgg,K⟩:=rowb_append (ty:=305) Tryz.underlying305 hi0 z0 s0 b0 rfl R0 ⟨g,o,none⟩ l.length c (cellsC l) (cellsC_length l) (fun j u hj=>by
  rw [add_mid]
  exact k0.cell (hs j u hj) (fun f=>f)) (cellsC_one _) (by omega) (by omega)
 have hk:Kept (fun _=>False) w w1:=k0.trans K (fun _ _ f=>f) (fun i hi h=>by have:=h.1;omega)
 have hg:w.heap.size≤g':=by
  rcases hgg with h | h
  ·omega
  ·have:=k0.size;omega
 rw [Nat.zero_add] at hrow hrun
 rw [List.nil_append] at hrow
 have q305:∀ (w:World) (a:Option Addr) (n c n' c':Nat),(binOp .eql 305 (.slice a n c) (.slice none n' c')).run Tryz.prog w = .ok (.bool a.isNone) w:=fun w a n c n' c'=>Lib.run_eql_slice_nil w _ _ a n c n' c' Tryz.underlying305
 clear R0 k0 K hgg hs
 go_enter Tryz.func292,Tryz.ntmps292
 go_wp2_with (at_builtin;refine Lib.wpList_append_run _ rfl _ _ _ _ rfl _ _ rfl rfl _ _ hrun ?_)
 go_ret
 exact ⟨g',cap',rfl,hrow,hg,hk⟩

set_option maxHeartbeats 4000000 in
theorem parted_any {w:World}{p:Pg}(H:PgB w p)(h2:2≤p.l.length)(hl:p.l.length≤1000) :
  Calls Tryz.prog 208 #[p.val] w fun e w'=>∃ (p2:Pg) (vb:Nat),e = .returned (.slice (some ⟨vb,0,none⟩) 2 2)∧w'.heap[vb]? = some (.cells #[Pg.val ⟨p.g,0,p.l.take (p.l.length / 2),p.l.length / 2⟩,p2.val] 305 (0,0))∧p2.l=p.l.drop (p.l.length / 2) ∧
   PgB w' ⟨p.g,0,p.l.take (p.l.length / 2),p.l.length / 2⟩∧PgB w' p2∧w.heap.size≤p2.g∧w.heap.size≤vb∧Kept (fun _=>False) w w':=by
 have hH:=H
 obtain ⟨g,o,l,cap⟩:=p
 obtain ⟨h0,h1,hR⟩:=H
 simp only at h0 h1 hR h2 hl ⊢
 subst h0
 obtain ⟨h,hh⟩:∃ h,l.length / 2=h:=⟨_,rfl⟩
 have c1:1≤h:=by omega
 have c2:h<l.length:=by omega
 have c3:l.length≤cap:=hR.2.1
 rw [hh]
 have ht:(l.take h).length=h:=by rw [List.length_take];omega
 have hd:(l.drop h).length=l.length - h:=List.length_drop
 have P1:PgB w ⟨g,0,l.take h,h⟩:=by
  refine ⟨rfl,fun e=>by have:=congrArg List.length e;simp only [List.length_nil] at this;omega,?_⟩
  have:=hR.part (k:=h) (c:=h) (by omega) (Nat.le_refl _) (by omega)
  rw [cellsC_take] at this
  simp only [ht]
  exact this
 have CL:=Lib.hid (fun (W:World) (K:Kept (fun _=>False) w W) (c:Nat)=>clone_any (w:=W) (g:=g) (o:=h * 3) (c:=c) (l:=l.drop h) (by omega) (fun j u hj=>by
  rw [← cellsC_drop,List.getElem?_drop] at hj
  exact K.cell (hR.cell hj) (fun f=>f)))
 rw [hd] at CL
 unfold Pg.val
 simp only [ht]
 have e1:((l.length:Int) / 2)=(h:Int):=by omega
 have e2:(h:Int)≤(l.length:Int):=by omega
 have e3:(0:Int)≤(h:Int):=by omega
 have e4:h≤l.length:=by omega
 have e5:h≤cap:=by omega
 have e6:(h:Int)≤(cap:Int):=by omega
 have e7:¬ (cap=h):=by omega
 have e8:IntKind.i64.wrap (h:Int)=(h:Int):=by rw [IntKind.wrap_i64];omega
 obtain ⟨n,hn⟩:∃ n,l.length=n:=⟨_,rfl⟩
 have HDN:=Lib.hid (show l.drop h≠[] from fun e=>by have:=congrArg List.length e;simp only [List.length_nil] at this;omega)
 rw [hn] at e1 e2 e4 CL hd ⊢
 have HD:=Lib.hid hd
 have PP:=Lib.hid P1
 clear P1 hR h1 hH hh c1 c2 c3 ht hd h2 hl hn
 go_enter Tryz.func208,Tryz.ntmps208
 go_wp2_with fail
 go_region_held3 (fun _=>True) (trivial)
  (first
   | (go_at_call 292;refine (CL.out _ (Kept.refl _ _).drew _).mono ?_;rintro e w4 ⟨q,qc,rfl,qr,ql,qk⟩;(have QK:=Lib.hid ((Kept.refl (fun _=>False) w).drew.trans qk (fun _ _ f=>f) (fun _ _ f=>f)));(have QR:=Lib.hid qr);(have QL:=Lib.hid ql);clear qr ql qk))
 go_wp2_with fail
 go_ret
 have hk4:=QK.out.alloc (.cells #[.slice (some ⟨g,0,none⟩) h h,.slice (some ⟨q,0,none⟩) (n - h) qc] 305)
 have hw4:Kept (fun _=>False) w4 (w4.alloc (.cells #[.slice (some ⟨g,0,none⟩) h h,.slice (some ⟨q,0,none⟩) (n - h) qc] 305)):=(Kept.refl _ _).alloc _
 refine ⟨⟨q,0,l.drop h,qc⟩,w4.heap.size,rfl,?_,rfl,PP.out.kept hk4 (fun f=>f),⟨rfl,HDN.out,?_⟩,QL.out,QK.out.size,hk4⟩
 ·simp only [HD.out]
  exact heap_alloc_new w4 _
 ·simp only [HD.out]
  exact QR.out.kept hw4 (fun f=>f)
end
end Go.Proofs.YthknocapablpaaaGreatDoor
