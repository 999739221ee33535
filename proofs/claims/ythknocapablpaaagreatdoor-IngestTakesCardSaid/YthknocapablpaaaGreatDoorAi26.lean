/- A part of the proof. -/
import Derived.Test.YthknocapablpaaaGreatDoorAi17
import Derived.Test.YthknocapablpaaaGreatDoorAi25
namespace Go.Proofs.YthknocapablpaaaGreatDoor
/- A row of elements that begins its block, whose capacity may be less than the block (a page that was parted). -/
section
open Go.RowKit Go.Lib Go.Eng

/-- A row of n elements, at the beginning of a block. -/
def RowB (w:World)(e size g n cap:Nat)(xs:List Value):Prop:=xs.length=n * size∧n≤cap∧∃ C:Array Value,w.heap[g]? = some (.cells C e (0,0))∧cap * size≤C.size∧C.toList.take (n * size)=xs
theorem RowB.lt {w:World}{e size g n cap:Nat}{xs:List Value}(h:RowB w e size g n cap xs):g<w.heap.size:=by
 obtain ⟨_,_,C,hg,_⟩:=h
 exact (Array.getElem?_eq_some_iff.1 hg).1
theorem RowB.kept {S:Nat→Prop}{w w':World}{e size g n cap:Nat}{xs:List Value}(h:RowB w e size g n cap xs)(K:Kept S w w')(hS:¬ S g):RowB w' e size g n cap xs:=by
 have hl:=h.lt
 obtain ⟨h1,h2,C,hg,h3⟩:=h
 exact ⟨h1,h2,C,(K.block g hl hS).trans hg,h3⟩
theorem RowB.cell {w:World}{e size g n cap:Nat}{xs:List Value}(h:RowB w e size g n cap xs){j:Nat}{u:Value}(hj:xs[j]? = some u):w.cell? ⟨g,j,none⟩=some u:=by
 obtain ⟨h1,h2,C,hg,h3,h4⟩:=h
 rw [← h4,List.getElem?_take] at hj
 split at hj
 ·simp only [World.cell?, hg]
  simpa using hj
 ·cases hj
theorem RowB.cellAdd {w:World}{e size g n cap:Nat}{xs:List Value}(h:RowB w e size g n cap xs){j:Nat}{u:Value}(hj:xs[j]? = some u):w.cell? ((⟨g,0,none⟩:Addr).add j)=some u:=by
 rw [add_mid,Nat.zero_add];exact h.cell hj
/-- Its first elements, with no more room than they need. -/
theorem RowB.part {w:World}{e size g n cap:Nat}{xs:List Value}(h:RowB w e size g n cap xs){k c:Nat}(hk:k≤n)(hkc:k≤c)(hc:c≤cap):RowB w e size g k c (xs.take (k * size)):=by
 obtain ⟨h1,h2,C,hg,h3,h4⟩:=h
 have a1:k * size≤n * size:=Nat.mul_le_mul_right _ hk
 have a2:c * size≤cap * size:=Nat.mul_le_mul_right _ hc
 refine ⟨by rw [List.length_take,h1];omega,hkc,C,hg,by omega,?_⟩
 rw [← h4,List.take_take,Nat.min_eq_left a1]
/-- append onto a row: in place, or in a new block. -/
theorem rowb_append {w:World}{t ty e size bytes:Nat}{i:TypeInfo}{z:Value}{g n cap:Nat}{xs:List Value}(ht:Tryz.prog.underlying t=some (.slice e))(hi:Tryz.prog.info? e=some i)(hz:i.zero=some z)
  (hsize:i.size=size)(hby:i.bytes=bytes)(hzs:z.cells.size=size)(H:RowB w e size g n cap xs)
  (a:Addr)(m c:Nat)(news:List Value)(hl:news.length=m * size)(hnews:∀ (j:Nat)(u:Value),news[j]? = some u→w.cell? (a.add j)=some u)(h1:∀ u∈news,u.oneCell'=true)
  (hn:n+m≤1000000)(hb:bytes≤1000000) :
  ∃ g' cap' w',(Builtin.append_ #[t,t] ty #[.slice (some ⟨g,0,none⟩) n cap,.slice (some a) m c]).run Tryz.prog w = .ok (.slice (some ⟨g',0,none⟩) (n+m) cap') w'∧RowB w' e size g' (n+m) cap' (xs++news)∧(g'=g∨g'=w.heap.size)∧Kept (fun b=>b=g∧g'=g) w w':=by
 have hlen:(xs++news).length=(n+m) * size:=by rw [List.length_append,H.1,hl,Nat.add_mul]
 have hlt:=H.lt
 have HH:=H
 obtain ⟨h0,h2,C,hg,h3,h4⟩:=H
 subst hsize
 by_cases hr:n+m≤cap
 ·have a1 : (n + m) * i.size ≤ cap * i.size := Nat.mul_le_mul_right _ hr
  have a2:(n+m) * i.size=n * i.size+m * i.size:=Nat.add_mul _ _ _
  have hrun:=Go.run_append_room (P:=Tryz.prog) w t ty e i ht hi g n cap C hg a m c news hl hnews h1 hr (by omega)
  refine ⟨g,cap,_,hrun,⟨hlen,hr,_,setRow_heap w g C _ e _ hg,?_,?_⟩,.inl rfl,⟨rfl,rfl,rfl,by simp,fun k _ hk=>setRow_other w g k _ (fun q=>hk ⟨q,rfl⟩)⟩⟩
  ·simp only [List.size_toArray, List.length_append, List.length_take, List.length_drop, Array.length_toList]
   omega
  ·rw [h4, ← hlen]
   exact List.take_left
 ·have hs : Builtin.nextslicecap (n + m) cap ≤ 2 * (n + m) := nextslicecap_le (by omega)
  have hs2:Builtin.nextslicecap (n+m) cap * i.bytes≤(2 * (n+m)) * i.bytes:=Nat.mul_le_mul_right _ hs
  have hs3:(2 * (n+m)) * i.bytes≤2000000 * 1000000:=Nat.mul_le_mul (by omega) (by omega)
  have hrun:=Go.run_append_grow (P:=Tryz.prog) w t ty e i z ht hi hz ⟨g,0,none⟩ n cap xs h0 (fun j v hj=>HH.cellAdd hj) a m c news hl hnews (by omega) (by omega) (by omega)
  have hge:=grownCap_ge w (n+m) cap e
  refine ⟨w.heap.size,_,_,hrun,⟨hlen,hge,_,heap_alloc_new w.drew _,?_,?_⟩,.inr rfl,⟨rfl,rfl,rfl,by simp,fun k hk _=>heap_alloc_old w.drew _ hk⟩⟩
  ·simp only [Array.size_append, List.size_toArray, size_zeroCells, hzs, h0, hl, ← Nat.add_mul]
   refine Nat.mul_le_mul_right _ ?_
   omega
  ·simp only [Array.toList_append, List.append_assoc]
   rw [← List.append_assoc,← hlen]
   exact List.take_left
end
end Go.Proofs.YthknocapablpaaaGreatDoor
