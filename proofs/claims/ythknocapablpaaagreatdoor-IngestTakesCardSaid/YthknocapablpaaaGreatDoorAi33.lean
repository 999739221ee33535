/- A part of the proof. -/
import Derived.Lib.SliceRun
import Derived.Test.YthknocapablpaaaGreatDoorAi2
namespace Go.Proofs.YthknocapablpaaaGreatDoor.Mg
/- The methods of merges.rows, each walked once: Less, Len, Swap, Pop, Push. -/
section
set_option maxRecDepth 100000
open Go.RowKit

/-- A row as it stands in the heap: where its cells lie, which ones are left, its place among all. -/
structure Rw where
 blk:Nat
 off:Nat
 cap:Nat
 xs:List Cel
 place:Nat
instance:Inhabited Rw:=⟨⟨0,0,0,[],0⟩⟩

/-- Which row stands ahead. -/
def ltR (a b:Rw):Bool:=decide (or2 (cmpC (nth a.xs 0) (nth b.xs 0)) (cmpI a.place b.place)<0)
theorem ltR_eq {a b:Rw}{x y:Cel}(hx:nth a.xs 0=x)(hy:nth b.xs 0=y):ltR a b=decide (or2 (cmpC x y) (cmpI a.place b.place)<0):=by unfold ltR;rw [hx,hy]

def cellsH:List Rw→List Value
 | []=>[]
 | r::l=>.slice (some ⟨r.blk,r.off,none⟩) r.xs.length r.cap :: .int .i64 r.place::cellsH l
theorem cellsH_length:∀ l,(cellsH l).length=l.length * 2
 | []=>rfl
 | r::l=>by simp [cellsH,cellsH_length l];omega
theorem cellsH_append:∀ a b,cellsH (a++b)=cellsH a++cellsH b
 | [],b=>rfl
 | r::l,b=>by simp [cellsH,cellsH_append l b]
theorem cellsH_get:∀ (l:List Rw)(i:Nat)(r:Rw),l[i]? = some r→(cellsH l)[i * 2]? = some (.slice (some ⟨r.blk,r.off,none⟩) r.xs.length r.cap)∧(cellsH l)[i * 2+1]? = some (.int .i64 r.place)
 | [],i,r,h=>by simp at h
 | x::l,0,r,h=>by simp at h;subst h;exact ⟨rfl,rfl⟩
 | x::l,i+1,r,h=>by
  have:=cellsH_get l i r (by simpa using h)
  rw [show (i+1) * 2=i * 2+2 by omega]
  exact this
theorem cellsH_set:∀ (l:List Rw)(i:Nat)(r:Rw),cellsH (l.set i r)=((cellsH l).set (i * 2) (.slice (some ⟨r.blk,r.off,none⟩) r.xs.length r.cap)).set (i * 2+1) (.int .i64 r.place)
 | [],i,r=>by simp [cellsH]
 | x::l,0,r=>by simp [cellsH]
 | x::l,i+1,r=>by
  rw [show (i+1) * 2=i * 2+1+1 by omega]
  simp [cellsH,cellsH_set l i r]
/-- The row's cells lie where it says. -/
structure GoodR (w:World) (r:Rw):Prop where
 ne:0<r.xs.length
 len:r.xs.length≤1000
 fit:r.xs.length≤r.cap
 pl:r.place≤1000
 at_:∀ j u,(cellsC r.xs)[j]? = some u→w.cell? ⟨r.blk,r.off+j,none⟩=some u
theorem GoodR.kept {S:Nat→Prop}{w w':World}{r:Rw}(h:GoodR w r)(hK:Kept S w w')(hS:¬ S r.blk):GoodR w' r:=
 ⟨h.ne,h.len,h.fit,h.pl,fun j u hu=>hK.cell (h.at_ j u hu) hS⟩
theorem GoodR.hd {w:World}{r:Rw}(h:GoodR w r):w.cell? ⟨r.blk,r.off,none⟩=some (.string (nth r.xs 0).k)∧w.cell? ⟨r.blk,r.off+1,none⟩=some (.int .i64 (nth r.xs 0).s)∧w.cell? ⟨r.blk,r.off+2,none⟩=some (.string (nth r.xs 0).v):=by
 obtain ⟨h0,h1,h2⟩:=cellsC_get r.xs 0 _ (nth_get r.xs h.ne)
 simp only [Nat.zero_mul,Nat.zero_add] at h0 h1 h2
 exact ⟨h.at_ 0 _ h0,h.at_ 1 _ h1,h.at_ 2 _ h2⟩

/-- The heap: a variable p that holds a slice v of rows of its own. -/
structure HeapAt (w:World) (base p:Nat) (v:Value) (l:List Rw):Prop where
 cell:w.cell? ⟨p,0,none⟩=some v
 fz:w.frozen? ⟨p,0,none⟩=false
 own:w.ownsRow base 396 2 v l.length (cellsH l)
 good:∀ r∈l,GoodR w r
 np:v.ownBlock≠some p
 nr:∀ r∈l,r.blk≠p∧v.ownBlock≠some r.blk
 few:l.length≤100
theorem _root_.Go.Proofs.YthknocapablpaaaGreatDoor.Kept.grown0 {w w':World}(h:Kept (fun _=>False) w w'):w.grownBy w' none:=⟨h.os,h.tape,h.output,h.size,fun k hk _=>h.block k hk (fun f=>f)⟩
theorem HeapAt.kept {w w':World}{base p:Nat}{v:Value}{l:List Rw}(h:HeapAt w base p v l)(hK:Kept (fun _=>False) w w'):HeapAt w' base p v l:=
 ⟨hK.cell h.cell (fun f=>f),hK.frozen h.fz (World.block_lt_of_cell? _ _ h.cell) (fun f=>f),h.own.kept hK.grown0 (by
  cases v with
  | slice a n c=>cases a <;> simp [Value.ownBlock]
  | _=>simp [Value.ownBlock]),fun r hr=>(h.good r hr).kept hK (fun f=>f),h.np,h.nr,h.few⟩
theorem HeapAt.form {w:World}{base p:Nat}{v:Value}{l:List Rw}(h:HeapAt w base p v l)(hl:0<l.length):∃ g cap,v = .slice (some ⟨g,0,none⟩) l.length cap∧l.length≤cap∧base≤g∧g<w.heap.size:=by
 rcases row_form h.own with ⟨_,h0⟩ | ⟨g,cap,rfl,h1,h2,h3,_⟩
 ·omega
 ·exact ⟨g,cap,rfl,h1,h2,h3⟩
theorem nth_mem {α:Type} [Inhabited α]{l:List α}{i:Nat}(h:i<l.length):nth l i∈l:=List.mem_of_getElem? (nth_get l h)
theorem HeapAt.rowAt {w:World}{base p g n cap:Nat}{l:List Rw}(h:HeapAt w base p (.slice (some ⟨g,0,none⟩) n cap) l){i:Nat}(hi:i<l.length) :
  w.cell? ⟨g,i * 2,none⟩=some (.slice (some ⟨(nth l i).blk,(nth l i).off,none⟩) (nth l i).xs.length (nth l i).cap)∧w.cell? ⟨g,i * 2+1,none⟩=some (.int .i64 (nth l i).place):=by
 obtain ⟨h0,h1⟩:=cellsH_get l i _ (nth_get l hi)
 have hc:=h.own.cells (g:=g) rfl
 have e0:=hc _ _ h0
 have e1:=hc _ _ h1
 rw [add_mid,Nat.zero_add] at e0 e1
 exact ⟨e0,e1⟩

set_option maxHeartbeats 2000000 in
theorem less_any (w:World)(g n cap i k:Nat)(ri rk:Rw)(ci ck:Cel)(hi:nth ri.xs 0=ci)(hk:nth rk.xs 0=ck)(li:0<ri.xs.length)(lk:0<rk.xs.length)(hin:i<n)(hkn:k<n)
  (a0:w.cell? ⟨g,i * 2,none⟩=some (.slice (some ⟨ri.blk,ri.off,none⟩) ri.xs.length ri.cap))(a1:w.cell? ⟨g,i * 2+1,none⟩=some (.int .i64 ri.place))
  (b0:w.cell? ⟨g,k * 2,none⟩=some (.slice (some ⟨rk.blk,rk.off,none⟩) rk.xs.length rk.cap))(b1:w.cell? ⟨g,k * 2+1,none⟩=some (.int .i64 rk.place))
  (c0:w.cell? ⟨ri.blk,ri.off,none⟩=some (.string ci.k))(c1:w.cell? ⟨ri.blk,ri.off+1,none⟩=some (.int .i64 ci.s))(c2:w.cell? ⟨ri.blk,ri.off+2,none⟩=some (.string ci.v))
  (d0:w.cell? ⟨rk.blk,rk.off,none⟩=some (.string ck.k))(d1:w.cell? ⟨rk.blk,rk.off+1,none⟩=some (.int .i64 ck.s))(d2:w.cell? ⟨rk.blk,rk.off+2,none⟩=some (.string ck.v)) :
  Calls Tryz.prog 415 #[.slice (some ⟨g,0,none⟩) n cap,.int .i64 i,.int .i64 k] w fun e w'=>e = .returned (.bool (ltR ri rk))∧Kept (fun _=>False) w w':=by
 have i1:(0:Int)≤(i:Int):=by omega
 have i2:(i:Int)<(n:Int):=by omega
 have i3:(0:Int)≤(k:Int):=by omega
 have i4:(k:Int)<(n:Int):=by omega
 have i5:(0:Int)<(ri.xs.length:Int):=by omega
 have i6:(0:Int)<(rk.xs.length:Int):=by omega
 have hKw:∀ {w4 w':World},Kept (fun _=>False) w.drew w4∧Kept (fun _=>False) w4 w'→Kept (fun _=>False) w w':=fun h=>(((Kept.refl _ w).drew).trans h.1 (fun _ _ f=>f) (fun _ _ f=>f)).trans h.2 (fun _ _ f=>f) (fun _ _ f=>f)
 go_enter Tryz.func415,Tryz.ntmps415
 go_upto_region 1 with fail
 refine wp_region_held_drew (S:=(fun w'=>w'.cell? ⟨g,i * 2,none⟩=some (.slice (some ⟨ri.blk,ri.off,none⟩) ri.xs.length ri.cap)∧w'.cell? ⟨g,i * 2+1,none⟩=some (.int .i64 ri.place)∧w'.cell? ⟨g,k * 2,none⟩=some (.slice (some ⟨rk.blk,rk.off,none⟩) rk.xs.length rk.cap)∧w'.cell? ⟨g,k * 2+1,none⟩=some (.int .i64 rk.place)∧w'.cell? ⟨ri.blk,ri.off,none⟩=some (.string ci.k)∧w'.cell? ⟨ri.blk,ri.off+1,none⟩=some (.int .i64 ci.s)∧w'.cell? ⟨ri.blk,ri.off+2,none⟩=some (.string ci.v)∧w'.cell? ⟨rk.blk,rk.off,none⟩=some (.string ck.k)∧w'.cell? ⟨rk.blk,rk.off+1,none⟩=some (.int .i64 ck.s)∧w'.cell? ⟨rk.blk,rk.off+2,none⟩=some (.string ck.v))) (by kernel_rfl) ?_ (fun hHeld=>?_)
 ·first | go_keep | (go_split_ands;(simp [go_sem, *];done))
 refine tW 0 opAt0 hHeld ?_
 try simp only [Act.put,z2,List.set]
 refine tW 1 opAt1 hHeld ?_
 try simp only [Act.put,z2,List.set]
 refine tW 2 opAt2 hHeld ?_
 try simp only [Act.put,z2,List.set]
 refine tW 3 opAt3 hHeld ?_
 try simp only [Act.put,z2,List.set]
 refine tW 4 opAt4 hHeld ?_
 try simp only [Act.put,z2,List.set]
 refine tW 5 opAt5 hHeld ?_
 try simp only [Act.put,z2,List.set]
 refine tW 6 opAt6 hHeld ?_
 try simp only [Act.put,z2,List.set]
 refine tW 7 opAt7 hHeld ?_
 try simp only [Act.put,z2,List.set]
 refine tW 8 opAt8 hHeld ?_
 try simp only [Act.put,z2,List.set]
 refine tW 9 opAt9 hHeld ?_
 try simp only [Act.put,z2,List.set]
 refine tW 10 opAt10 hHeld ?_
 try simp only [Act.put,z2,List.set]
 refine tW 11 opAt11 hHeld ?_
 try simp only [Act.put,z2,List.set]
 refine tW 12 opAt12 hHeld ?_
 try simp only [Act.put,z2,List.set]
 refine tW 13 opAt13 hHeld ?_
 try simp only [Act.put,z2,List.set]
 refine tW 15 opAt15 hHeld ?_
 try simp only [Act.put,z2,List.set]
 refine tW 16 opAt16 hHeld ?_
 try simp only [Act.put,z2,List.set]
 refine tW 17 opAt17 hHeld ?_
 try simp only [Act.put,z2,List.set]
 refine tW 18 opAt18 hHeld ?_
 try simp only [Act.put,z2,List.set]
 refine tW 19 opAt19 hHeld ?_
 try simp only [Act.put,z2,List.set]
 refine tW 20 opAt20 hHeld ?_
 try simp only [Act.put,z2,List.set]
 refine tW 21 opAt21 hHeld ?_
 try simp only [Act.put,z2,List.set]
 refine tW 22 opAt22 hHeld ?_
 try simp only [Act.put,z2,List.set]
 refine tW 23 opAt23 hHeld ?_
 try simp only [Act.put,z2,List.set]
 refine tW 24 opAt24 hHeld ?_
 try simp only [Act.put,z2,List.set]
 refine wpAnyH_ready (rs:=[14]) (by kernel_rfl) (by simp) ?_
 refine AllReadyH.cons opAt14 (fun K hK=>?_) AllReadyH.nil
 go_simp
 go_at_call 201;refine (cell_cmp2 ci ck _).mono ?_;rintro e w4 ⟨rfl,Kw4⟩;dsimp only
 refine hK.out _ _ ?_ (fun hHeld=>?_)
 ·refine ⟨Kw4.cell hHeld.1 (fun f=>f),Kw4.cell hHeld.2.1 (fun f=>f),Kw4.cell hHeld.2.2.1 (fun f=>f),Kw4.cell hHeld.2.2.2.1 (fun f=>f),Kw4.cell hHeld.2.2.2.2.1 (fun f=>f),Kw4.cell hHeld.2.2.2.2.2.1 (fun f=>f),Kw4.cell hHeld.2.2.2.2.2.2.1 (fun f=>f),Kw4.cell hHeld.2.2.2.2.2.2.2.1 (fun f=>f),Kw4.cell hHeld.2.2.2.2.2.2.2.2.1 (fun f=>f),Kw4.cell hHeld.2.2.2.2.2.2.2.2.2 (fun f=>f)⟩
 clear hK K
 try simp only [Act.put,z2,List.set]
 refine wpAnyH_ready (rs:=[25]) (by kernel_rfl) (by simp) ?_
 refine AllReadyH.cons opAt25 (fun K hK=>?_) AllReadyH.nil
 go_simp
 go_at_call 92;refine (cmp_int ri.place rk.place _).mono ?_;rintro e w5 ⟨rfl,rfl⟩;dsimp only
 refine hK.out _ _ ?_ (fun hHeld=>?_)
 ·exact hHeld
 clear hK K
 try simp only [Act.put,z2,List.set]
 refine wpAnyH_ready (rs:=[26]) (by kernel_rfl) (by simp) ?_
 refine AllReadyH.cons opAt26 (fun K hK=>?_) AllReadyH.nil
 go_simp
 skip
 refine hK.out _ _ ?_ (fun hHeld=>?_)
 ·refine ⟨((Kept.refl (fun _=>False) _).alloc (Obj.cells #[Value.int .i64 (cmpC ci ck),Value.int .i64 (cmpI ri.place rk.place)] 3)).cell hHeld.1 (fun f=>f),((Kept.refl (fun _=>False) _).alloc (Obj.cells #[Value.int .i64 (cmpC ci ck),Value.int .i64 (cmpI ri.place rk.place)] 3)).cell hHeld.2.1 (fun f=>f),((Kept.refl (fun _=>False) _).alloc (Obj.cells #[Value.int .i64 (cmpC ci ck),Value.int .i64 (cmpI ri.place rk.place)] 3)).cell hHeld.2.2.1 (fun f=>f),((Kept.refl (fun _=>False) _).alloc (Obj.cells #[Value.int .i64 (cmpC ci ck),Value.int .i64 (cmpI ri.place rk.place)] 3)).cell hHeld.2.2.2.1 (fun f=>f),((Kept.refl (fun _=>False) _).alloc (Obj.cells #[Value.int .i64 (cmpC ci ck),Value.int .i64 (cmpI ri.place rk.place)] 3)).cell hHeld.2.2.2.2.1 (fun f=>f),((Kept.refl (fun _=>False) _).alloc (Obj.cells #[Value.int .i64 (cmpC ci ck),Value.int .i64 (cmpI ri.place rk.place)] 3)).cell hHeld.2.2.2.2.2.1 (fun f=>f),((Kept.refl (fun _=>False) _).alloc (Obj.cells #[Value.int .i64 (cmpC ci ck),Value.int .i64 (cmpI ri.place rk.place)] 3)).cell hHeld.2.2.2.2.2.2.1 (fun f=>f),((Kept.refl (fun _=>False) _).alloc (Obj.cells #[Value.int .i64 (cmpC ci ck),Value.int .i64 (cmpI ri.place rk.place)] 3)).cell hHeld.2.2.2.2.2.2.2.1 (fun f=>f),((Kept.refl (fun _=>False) _).alloc (Obj.cells #[Value.int .i64 (cmpC ci ck),Value.int .i64 (cmpI ri.place rk.place)] 3)).cell hHeld.2.2.2.2.2.2.2.2.1 (fun f=>f),((Kept.refl (fun _=>False) _).alloc (Obj.cells #[Value.int .i64 (cmpC ci ck),Value.int .i64 (cmpI ri.place rk.place)] 3)).cell hHeld.2.2.2.2.2.2.2.2.2 (fun f=>f)⟩
 clear hK K
 try simp only [Act.put,z2,List.set]
 refine wpAnyH_ready (rs:=[27]) (by kernel_rfl) (by simp) ?_
 refine AllReadyH.cons opAt27 (fun K hK=>?_) AllReadyH.nil
 go_simp
 go_at_call 91;refine (or_two _ _ (cmpC ci ck) (cmpI ri.place rk.place) _ ?_ ?_).mono ?_;(simp [go_sem]);(simp [go_sem]);rintro e w7 ⟨rfl,rfl⟩;dsimp only
 refine hK.out _ _ ?_ (fun hHeld=>?_)
 ·exact hHeld
 clear hK K
 try simp only [Act.put,z2,List.set]
 refine tW 28 opAt28 hHeld ?_
 try simp only [Act.put,z2,List.set]
 refine tW 29 opAt29 hHeld ?_
 try simp only [Act.put,z2,List.set]
 refine wpAnyH_done (by kernel_rfl) ?_ _
 go_wp2
 go_ret
 exact ⟨by rw [ltR_eq hi hk];rfl,hKw ⟨Kw4,(Kept.refl (fun _=>False) _).alloc _⟩⟩
/-- Less, of two rows of a heap. -/
theorem less_heap {w:World}{base p:Nat}{v:Value}{l:List Rw}(h:HeapAt w base p v l)(i k:Nat)(hi:i<l.length)(hk:k<l.length) :
  Calls Tryz.prog 415 #[v,.int .i64 i,.int .i64 k] w fun e w'=>e = .returned (.bool (ltR (nth l i) (nth l k)))∧Kept (fun _=>False) w w':=by
 obtain ⟨g,cap,rfl,_⟩:=h.form (by omega)
 obtain ⟨a0,a1⟩:=h.rowAt hi
 obtain ⟨b0,b1⟩:=h.rowAt hk
 have gi:=h.good _ (nth_mem hi)
 have gk:=h.good _ (nth_mem hk)
 obtain ⟨c0,c1,c2⟩:=gi.hd
 obtain ⟨d0,d1,d2⟩:=gk.hd
 exact less_any w g l.length cap i k (nth l i) (nth l k) _ _ rfl rfl gi.ne gk.ne hi hk a0 a1 b0 b1 c0 c1 c2 d0 d1 d2

theorem len_rows (v:Value)(a:Option Addr)(n cap:Nat)(w:World)(hv:v = .slice a n cap):Calls Tryz.prog 414 #[v] w fun e w'=>e = .returned (.int .i64 n)∧w=w':=by
 subst hv
 go_enter Tryz.func414,Tryz.ntmps414
 go_wp2
 go_ret
 exact ⟨rfl,rfl⟩

/-- A row is stored. -/
theorem own_set {w:World}{base g n cap:Nat}{l:List Rw}(h:w.ownsRow base 396 2 (.slice (some ⟨g,0,none⟩) n cap) n (cellsH l))(i:Nat)(r:Rw) :
  ((w.setCell ⟨g,i * 2,none⟩ (.slice (some ⟨r.blk,r.off,none⟩) r.xs.length r.cap)).setCell ⟨g,i * 2+1,none⟩ (.int .i64 r.place)).ownsRow base 396 2 (.slice (some ⟨g,0,none⟩) n cap) n (cellsH (l.set i r)):=by
 rw [cellsH_set]
 exact ((h.stored _ _).1.stored _ _).1
theorem HeapAt.moved {w w':World}{base p g cap:Nat}{l l':List Rw}(h:HeapAt w base p (.slice (some ⟨g,0,none⟩) l.length cap) l)(hK:Kept (fun b=>g=b) w w')(hp:l'.Perm l)
  (ho:w'.ownsRow base 396 2 (.slice (some ⟨g,0,none⟩) l.length cap) l.length (cellsH l')):HeapAt w' base p (.slice (some ⟨g,0,none⟩) l.length cap) l':=by
 have hgp:g≠p:=fun e=>h.np (by rw [← e];rfl)
 refine ⟨hK.cell h.cell hgp,hK.frozen h.fz (World.block_lt_of_cell? _ _ h.cell) hgp,?_,fun r hr=>?_,h.np,fun r hr=>h.nr r (hp.mem_iff.1 hr),by rw [hp.length_eq];exact h.few⟩
 ·rw [hp.length_eq];exact ho
 ·have hr' := hp.mem_iff.1 hr
  exact (h.good r hr').kept hK (fun e=>(h.nr r hr').2 (by rw [← e];rfl))

set_option maxHeartbeats 2000000 in
theorem swap_heap {w:World}{base p:Nat}{v:Value}{l:List Rw}(h:HeapAt w base p v l)(i k:Nat)(hi:i<l.length)(hk:k<l.length) :
  Calls Tryz.prog 416 #[v,.int .i64 i,.int .i64 k] w fun e w'=>e = .returned (.tuple #[])∧HeapAt w' base p v (swapL l i k)∧Kept (fun b=>v.ownBlock=some b) w w':=by
 obtain ⟨g,cap,rfl,_⟩:=h.form (by omega)
 obtain ⟨a0,a1⟩:=h.rowAt hi
 obtain ⟨b0,b1⟩:=h.rowAt hk
 have i1:(0:Int)≤(i:Int):=by omega
 have i2:(i:Int)<(l.length:Int):=by omega
 have i3:(0:Int)≤(k:Int):=by omega
 have i4:(k:Int)<(l.length:Int):=by omega
 have hfin:HeapAt ((((w.setCell ⟨g,i * 2,none⟩ (.slice (some ⟨(nth l k).blk,(nth l k).off,none⟩) (nth l k).xs.length (nth l k).cap)).setCell ⟨g,i * 2+1,none⟩ (.int .i64 (nth l k).place)).setCell ⟨g,k * 2,none⟩ (.slice (some ⟨(nth l i).blk,(nth l i).off,none⟩) (nth l i).xs.length (nth l i).cap)).setCell ⟨g,k * 2+1,none⟩ (.int .i64 (nth l i).place)).drew base p (.slice (some ⟨g,0,none⟩) l.length cap) (swapL l i k) ∧
   Kept (fun b=>g=b) w ((((w.setCell ⟨g,i * 2,none⟩ (.slice (some ⟨(nth l k).blk,(nth l k).off,none⟩) (nth l k).xs.length (nth l k).cap)).setCell ⟨g,i * 2+1,none⟩ (.int .i64 (nth l k).place)).setCell ⟨g,k * 2,none⟩ (.slice (some ⟨(nth l i).blk,(nth l i).off,none⟩) (nth l i).xs.length (nth l i).cap)).setCell ⟨g,k * 2+1,none⟩ (.int .i64 (nth l i).place)).drew:=by
  have hK:Kept (fun b=>g=b) w ((((w.setCell ⟨g,i * 2,none⟩ (.slice (some ⟨(nth l k).blk,(nth l k).off,none⟩) (nth l k).xs.length (nth l k).cap)).setCell ⟨g,i * 2+1,none⟩ (.int .i64 (nth l k).place)).setCell ⟨g,k * 2,none⟩ (.slice (some ⟨(nth l i).blk,(nth l i).off,none⟩) (nth l i).xs.length (nth l i).cap)).setCell ⟨g,k * 2+1,none⟩ (.int .i64 (nth l i).place)).drew:=
   Kept.drew (Kept.setAt (fun _=>rfl) (Kept.setAt (fun _=>rfl) (Kept.setAt (fun _=>rfl) (Kept.setAt (fun _=>rfl) (Kept.refl _ w)))))
  refine ⟨h.moved hK (perm_swap l hi hk) ?_,hK⟩
  exact (own_set (own_set h.own i (nth l k)) k (nth l i)).drew
 obtain ⟨ri,hri⟩:∃ r,nth l i=r:=⟨_,rfl⟩
 obtain ⟨rk,hrk⟩:∃ r,nth l k=r:=⟨_,rfl⟩
 have hf:=fun j=>h.own.frozenAt j
 rw [hri] at a0 a1 hfin
 rw [hrk] at b0 b1 hfin
 have H:=Lib.hid h;have RI:=Lib.hid hri;have RK:=Lib.hid hrk;have FIN:=Lib.hid hfin
 clear h hri hrk hfin
 have x1:¬ i * 2=k * 2+1:=by omega
 have x2:¬ i * 2+1=k * 2:=by omega
 have x3:¬ k * 2=i * 2+1:=by omega
 have x4:¬ k * 2+1=i * 2:=by omega
 have hown:∀ g':Nat,(Value.slice (some ⟨g,0,none⟩) l.length cap).ownBlock=some g' ↔ g=g':=fun g'=>by simp [Value.ownBlock]
 simp only [hown]
 clear hown
 by_cases hik:i=k
 ·subst hik
  obtain rfl:ri=rk:=RI.out.symm.trans RK.out
  go_enter Tryz.func416,Tryz.ntmps416
  go_region
  all_goals go_wp2
  all_goals go_end0
  all_goals exact ⟨rfl,FIN.out⟩
 ·have hki : ¬ k = i := fun e => hik e.symm
  go_enter Tryz.func416,Tryz.ntmps416
  go_region
  all_goals go_wp2
  all_goals go_end0
  all_goals exact ⟨rfl,FIN.out⟩

end
section
set_option maxRecDepth 100000
open Go.RowKit
theorem wrap_nil (ts:Array TypeId)(t:TypeId)(a:Addr)(n:String)(w:World):(Builtin.ssaWrapNilChk_ ts t #[.pointer (some a), strVal "",strVal n]).run Tryz.prog w = .ok (.pointer (some a)) w:=by rfl
theorem by_value {w:World}{p fuel f:Nat}{v:Value}{name:String}(hm:(Tryz.t394.methods.find? (·.name == name)).map (fun m=>(m.path,m.func))=some (#[],some (f,false)))
  (hl:w.cell? ⟨p,0,none⟩=some v):(method (fuel+1) 394 (.pointer (some ⟨p,0,none⟩)) name).run Tryz.prog w = .ok (f,v) w:=by
 obtain ⟨m,hm1,hm2⟩:=Option.map_eq_some_iff.1 hm
 simp only [Prod.mk.injEq] at hm2
 have hu:=run_underlying (P:=Tryz.prog) Tryz.underlying394 w
 unfold method
 simp [go_sem,hm1,hm2.1,hm2.2,follow,receiverAt,Place.get,hl,hu,wrap_nil]
theorem m_len (p:Nat)(w:World)(v:Value)(hv:w.cell? ⟨p,0,none⟩=some v):(method 595 394 (.pointer (some ⟨p,0, none⟩)) "Len").run Tryz.prog w = .ok (414,v) w:=
 by_value (by kernel_rfl) hv
theorem m_less (p:Nat)(w:World)(v:Value)(hv:w.cell? ⟨p,0,none⟩=some v):(method 595 394 (.pointer (some ⟨p,0, none⟩)) "Less").run Tryz.prog w = .ok (415,v) w:=
 by_value (by kernel_rfl) hv
theorem m_swap (p:Nat)(w:World)(v:Value)(hv:w.cell? ⟨p,0,none⟩=some v):(method 595 394 (.pointer (some ⟨p,0, none⟩)) "Swap").run Tryz.prog w = .ok (416,v) w:=
 by_value (by kernel_rfl) hv
theorem m_pop (p:Nat)(w:World):(method 595 394 (.pointer (some ⟨p,0, none⟩)) "Pop").run Tryz.prog w = .ok (417,.pointer (some ⟨p,0,none⟩)) w:=by kernel_rfl
theorem m_push (p:Nat)(w:World):(method 595 394 (.pointer (some ⟨p,0, none⟩)) "Push").run Tryz.prog w = .ok (418,.pointer (some ⟨p,0,none⟩)) w:=by kernel_rfl
end
/- The two methods of merges.rows that change how many rows there are: Push, Pop. -/
section
set_option maxRecDepth 100000
open Go.RowKit

theorem inf58:(Tryz.prog.info? 396).map (fun i=>(i.zero,i.size,i.bytes))=some (some (.agg #[.slice none 0 0,.int .i64 0]),2,32):=by kernel_rfl
theorem assert58 (x:Value)(W:World):(Instr.typeAssert (.iface 396 x) 20 396 false).run Tryz.prog W = .ok x W:=by kernel_rfl
def Rw.val (r:Rw):Value:=.agg #[.slice (some ⟨r.blk,r.off,none⟩) r.xs.length r.cap,.int .i64 r.place]
/-- Which blocks the heap's own acts may turn. -/
def mine (p:Nat)(v:Value)(b:Nat):Prop:=b=p∨v.ownBlock=some b

theorem HeapAt.new {w w2:World}{base p:Nat}{v v':Value}{l l':List Rw}(h:HeapAt w base p v l)(hK:Kept (fun b=>v.ownBlock=some b) w w2)(ho:w2.ownsRow base 396 2 v' l'.length (cellsH l'))
  (hat:v'.ownBlock=v.ownBlock∨∀ b,v'.ownBlock=some b→w.heap.size≤b)(hg:∀ r∈l',GoodR w r∧r.blk≠p∧v.ownBlock≠some r.blk)(few:l'.length≤100) :
  HeapAt (w2.setCell ⟨p,0,none⟩ v') base p v' l'∧Kept (mine p v) w (w2.setCell ⟨p,0,none⟩ v'):=by
 have hp:=World.block_lt_of_cell? _ _ h.cell
 simp only at hp
 have hnp:v'.ownBlock≠some p:=by
  rcases hat with e | e
  ·rw [e];exact h.np
  ·intro f;have:=e p f;omega
 have hK2:Kept (mine p v) w (w2.setCell ⟨p,0,none⟩ v'):=Kept.setAt (fun _=>.inl rfl) (hK.mono (fun k _ hk=>.inr hk))
 have c2:=hK.cell h.cell h.np
 refine ⟨⟨World.cell?_setCell_same' _ _ _ (by rw [c2];rfl),by rw [World.frozen?_setCell];exact hK.frozen h.fz hp h.np,ownsRow_setCell_other ho hnp _,fun r hr=>?_,hnp,fun r hr=>?_,few⟩,hK2⟩
 ·obtain ⟨h1, h2, h3⟩ := hg r hr
  exact h1.kept hK2 (fun e=>e.elim h2 h3)
 ·obtain ⟨h1, h2, h3⟩ := hg r hr
  refine ⟨h2,?_⟩
  rcases hat with e | e
  ·rw [e];exact h3
  ·intro f
   have:=e _ f
   have:=World.block_lt_of_cell? _ _ h1.hd.1
   simp only at this
   omega

set_option maxHeartbeats 2000000 in
theorem rows_push {w:World}{base p:Nat}{v:Value}{l:List Rw}{r:Rw}(h:HeapAt w base p v l)(hr:GoodR w r)(hrp:r.blk≠p)(hrv:v.ownBlock≠some r.blk)(hl:l.length<100)(hb:base≤w.heap.size) :
  Calls Tryz.prog 418 #[.pointer (some ⟨p,0,none⟩),.iface 396 (.agg #[.slice (some ⟨r.blk,r.off,none⟩) r.xs.length r.cap,.int .i64 r.place])] w fun e w'=>e = .returned (.tuple #[]) ∧
   ∃ v',HeapAt w' base p v' (l++[r])∧Kept (mine p v) w w'∧(v'.ownBlock=v.ownBlock∨∀ b,v'.ownBlock=some b→w.heap.size≤b):=by
 obtain ⟨i0,hi0,hz0,hz1,hz2⟩:=info_parts inf58
 have hc:=h.cell
 have hlt:=World.block_lt_of_cell? _ _ hc
 simp only at hlt
 have hfz:=h.fz
 have hrl:=World.block_lt_of_cell? _ _ hr.hd.1
 simp only at hrl
 have hf:∃ ao cap,v = .slice ao l.length cap:=by
  rcases row_form h.own with ⟨rfl,hn⟩ | ⟨g,cap,rfl,hc,_,_,_⟩
  ·exact ⟨none,0,by rw [hn]⟩
  ·exact ⟨_,_,rfl⟩
 obtain ⟨ao,cap,rfl⟩:=hf
 have H:=Lib.hid h;have O:=Lib.hid h.own;have R:=Lib.hid hr;have RV:=Lib.hid hrv
 have a1:¬ (Value.slice ao l.length cap).ownBlock=some p:=h.np
 clear h hr hrv
 have hta:=assert58
 go_enter Tryz.func418,Tryz.ntmps418
 go_region_law
  ((refine step_app (by rfl) _ _ 390 (by rfl) base 396 i0 _ 2 32 Tryz.underlying390 hi0 hz0 hz1 hz2 (by rfl) (by decide) _ l.length _ (by rfl) (O.out.alloc _) ⟨w.heap.size,0,none⟩ 1 1 [.slice (some ⟨r.blk,r.off,none⟩) r.xs.length r.cap,.int .i64 r.place] (by rfl) (by rfl) ?_ ?_ ?_ ?_ ?_ ?_;(exact World.news_of_block (heap_alloc_new w _));(intro u hu;simp at hu;rcases hu with rfl | rfl <;> rfl);(unfold maxLen;omega);omega;(simp;omega);intro ao' cap' w2 hown2 hgr hat;(have KG:=grown_kept hgr);(have s0:=KG.cell (a:=⟨p,0,none⟩) (v:=.slice ao l.length cap) (by simp [go_sem,hc,hlt]) a1);(have sf:=KG.frozen (a:=⟨p,0,none⟩) (by simp [go_sem,hfz,hlt]) (by simp;omega) a1)))
 all_goals go_wp2
 all_goals go_end0
 all_goals
  have k1:Kept (fun k=>(Value.slice ao l.length cap).ownBlock=some k) w w2:=((Kept.refl (fun _=>False) w).alloc (Obj.cells #[Value.slice (some ⟨r.blk,r.off,none⟩) r.xs.length r.cap,Value.int .i64 r.place] 396)).drew.trans KG (fun _ _ f=>f.elim) (fun _ _ h=>h)
  have hat2:(Value.slice ao' (l.length+1) cap').ownBlock=(Value.slice ao l.length cap).ownBlock∨∀ b,(Value.slice ao' (l.length+1) cap').ownBlock=some b→w.heap.size≤b:=by
   rcases hat with e | e
   ·exact .inl e
   ·right;intro b hb;rw [hb] at e;have:=Option.some.inj e;simp at this;omega
  obtain ⟨q1,q2⟩:=H.out.new (l':=l++[r]) (v':=.slice ao' (l.length+1) cap') k1 (by
   have e1:cellsH (l++[r])=cellsH l++[.slice (some ⟨r.blk,r.off,none⟩) r.xs.length r.cap,.int .i64 r.place]:=by rw [cellsH_append];rfl
   rw [e1,List.length_append]
   exact hown2) hat2 (fun x hx=>by
   rcases List.mem_append.1 hx with hx | hx
   ·exact ⟨H.out.good x hx,H.out.nr x hx⟩
   ·rw [List.mem_singleton.1 hx];exact ⟨R.out,hrp,RV.out⟩) (by simp;omega)
  exact ⟨rfl,_,q1,q2,hat2⟩

set_option maxHeartbeats 2000000 in
theorem rows_pop {w:World}{base p:Nat}{v:Value}{l:List Rw}(h:HeapAt w base p v l)(hl:0<l.length) :
  Calls Tryz.prog 417 #[.pointer (some ⟨p,0,none⟩)] w fun e w'=>e = .returned (.iface 396 (.agg #[.slice (some ⟨(nth l (l.length - 1)).blk,(nth l (l.length - 1)).off,none⟩) (nth l (l.length - 1)).xs.length (nth l (l.length - 1)).cap,.int .i64 (nth l (l.length - 1)).place])) ∧
   ∃ v',HeapAt w' base p v' (l.take (l.length - 1))∧Kept (mine p v) w w'∧v'.ownBlock=v.ownBlock:=by
 obtain ⟨g,cap,rfl,hcap,hbg,hgl⟩:=h.form hl
 have hc:=h.cell
 have hlt:=World.block_lt_of_cell? _ _ hc
 simp only at hlt
 have hfz:=h.fz
 obtain ⟨n,hn⟩:∃ n,l.length - 1=n:=⟨_,rfl⟩
 have hn1:l.length=n+1:=by omega
 obtain ⟨a0,a1⟩:=h.rowAt (i:=n) (by omega)
 rw [hn]
 obtain ⟨r,hr⟩:∃ r,nth l n=r:=⟨_,rfl⟩
 rw [hr] at a0 a1 ⊢
 have few:=h.few
 have e1:IntKind.i64.wrap ((l.length:Int) - 1)=(n:Int):=by rw [hn1];simp;exact IntWalk.i64_in _ (by omega)
 have i1:(0:Int)≤(n:Int):=by omega
 have i2:(n:Int)<(l.length:Int):=by omega
 have i3:(n:Int)≤(cap:Int):=by omega
 have H:=Lib.hid h;have N:=Lib.hid hn;have N1:=Lib.hid hn1;have R:=Lib.hid hr
 clear h hn hn1 hr
 go_enter Tryz.func417,Tryz.ntmps417
 go_wp2
 go_ret
 have el:l=l.take n++[r]:=by
  have h3:l.take (n+1)=l:=List.take_of_length_le (by have:=N1.out;omega)
  rw [List.take_add_one,nth_get l (by have:=N1.out;omega),R.out] at h3
  simpa using h3.symm
 have lt:(l.take n).length=n:=by rw [List.length_take];have:=N1.out;omega
 have own:w.ownsRow base 396 2 (.slice (some ⟨g,0,none⟩) (n+1) cap) (n+1) (cellsH (l.take n)++[.slice (some ⟨r.blk,r.off,none⟩) r.xs.length r.cap,.int .i64 r.place]):=by
  have h1:=H.out.own
  have e2:cellsH l=cellsH (l.take n)++[.slice (some ⟨r.blk,r.off,none⟩) r.xs.length r.cap,.int .i64 r.place]:=by
   conv=>lhs;rw [el]
   rw [cellsH_append];rfl
  rw [e2,N1.out] at h1
  exact h1
 have own2:=ownsRow_pop (by rw [cellsH_length,lt]) own
 obtain ⟨q1,q2⟩:=H.out.new (w2:=w) (l':=l.take n) (v':=.slice (some ⟨g,0,none⟩) n cap) (Kept.refl _ w) (by rw [lt];exact own2) (.inl rfl) (fun x hx=>⟨H.out.good x (List.mem_of_mem_take hx),H.out.nr x (List.mem_of_mem_take hx)⟩) (by omega)
 exact ⟨rfl,.slice (some ⟨g,0,none⟩) n cap,q1.kept ((Kept.refl _ _).alloc _),q2.alloc _,rfl⟩
end
/- container/heap over merges.rows: up, down, Push, Pop. -/
section
set_option maxRecDepth 100000
open Go.RowKit

theorem HeapAt.slice {w:World}{base p:Nat}{v:Value}{l:List Rw}(h:HeapAt w base p v l):∃ a cap,v = .slice a l.length cap:=by
 rcases row_form h.own with ⟨rfl,hn⟩ | ⟨g,cap,rfl,_⟩
 ·exact ⟨none,0,by rw [hn]⟩
 ·exact ⟨_,_,rfl⟩

set_option maxHeartbeats 2000000 in
theorem up_w {w:World}{base p:Nat}{v:Value}{l:List Rw}(h:HeapAt w base p v l)(j:Nat)(hj:j<l.length) :
  Calls Tryz.prog 349 #[.iface 394 (.pointer (some ⟨p,0,none⟩)),.int .i64 j] w fun e w'=>e = .returned (.tuple #[])∧HeapAt w' base p v (upL ltR l j)∧Kept (fun b=>v.ownBlock=some b) w w':=by
 have few:=h.few
 have H0:=Lib.hid h;clear h
 go_enter Tryz.func349,Tryz.ntmps349
 go_wp2
 go_loopg [1] j (fun g t wr=>t = .int .i64 g∧g<l.length∧∃ l',HeapAt wr base p v l'∧upL ltR l' g=upL ltR l j∧l'.length=l.length∧Kept (fun b=>v.ownBlock=some b) w wr)
 case atStart=>exact ⟨rfl,hj,l,H0.out,rfl,rfl,Kept.refl _ _⟩
 case round=>
  obtain ⟨rfl,hg,l',h1,h2,h3,h4⟩:=hrel
  have H:=Lib.hid h1;have U:=Lib.hid h2;have LN:=Lib.hid h3;have K:=Lib.hid h4
  clear h1 h2 h3 h4
  by_cases h0:gk=0
  ·have e0 : ((gk : Int) - 1).tdiv 2 = (gk : Int) := by subst h0; decide
   have G:=Lib.hid h0;clear h0
   go_wp2
   go_end0
   refine ⟨rfl,?_,K.out⟩
   have e:l'=upL ltR l j:=by rw [← U.out,upL,dif_pos G.out]
   rw [← e];exact H.out
  ·obtain ⟨i, hi⟩ : ∃ i, (gk - 1) / 2 = i := ⟨_, rfl⟩
   have e0:((gk:Int) - 1).tdiv 2=(i:Int):=by
    rw [show (gk:Int) - 1=((gk - 1:Nat):Int) by omega,← hi,Int.tdiv_eq_ediv_of_nonneg (by omega)]
    omega
   have ew:wrap64 (i:Int)=(i:Int):=by unfold wrap64;omega
   have hne:¬ (i:Int)=(gk:Int):=by omega
   have hne2:¬ i=gk:=by omega
   have hm:=m_less p wr v H.out.cell
   have G:=Lib.hid hi;have G0:=Lib.hid h0;clear hi h0
   cases hb:ltR (nth l' gk) (nth l' i) with
   | false=>
    go_wp2_with (go_at_call 415;refine (less_heap H.out gk i (by rw [LN.out];exact hg) (by have:=G.out;have:=LN.out;omega)).mono ?_;rw [hb];rintro e w4 ⟨rfl,K4⟩;(have H4:=Lib.hid (H.out.kept K4));(have KK4:=Lib.hid K4);clear K4)
    go_end0
    refine ⟨rfl,?_,K.out.trans KK4.out (fun _ _ h=>h) (fun _ _ f=>f.elim)⟩
    have e:l'=upL ltR l j:=by rw [← U.out,upL,dif_neg G0.out,G.out,hb];rfl
    rw [← e];exact H4.out
   | true=>
    go_wp2_with (first
     | (go_at_call 415;refine (less_heap H.out gk i (by rw [LN.out];exact hg) (by have:=G.out;have:=LN.out;omega)).mono ?_;rw [hb];rintro e w4 ⟨rfl,K4⟩;(have H4:=Lib.hid (H.out.kept K4));(have hm4:=m_swap p w4 v H4.out.cell);(have KK4:=Lib.hid K4);clear K4)
     | (go_at_call 416;refine (swap_heap H4.out i gk (by have:=G.out;have:=LN.out;omega) (by rw [LN.out];exact hg)).mono ?_;rintro e w5 ⟨rfl,H5',K5⟩;(have H5:=Lib.hid H5');(have KK5:=Lib.hid K5);clear K5 H5'))
    go_roundg i
    case measure=>have:=G.out;have:=G0.out;omega
    case rel=>exact ⟨rfl,by have:=G.out;omega,_,H5.out,by rw [← U.out];conv=>{ rhs;rw [upL,dif_neg G0.out,G.out,if_pos hb] },by rw [length_swapL];exact LN.out,(K.out.trans KK4.out (fun _ _ h=>h) (fun _ _ f=>f.elim)).trans KK5.out (fun _ _ h=>h) (fun _ _ h=>h)⟩
end
/- container/heap's down over merges.rows. -/
section
set_option maxRecDepth 100000
open Go.RowKit

set_option maxHeartbeats 4000000 in
theorem down_w {w:World}{base p:Nat}{v:Value}{l:List Rw}(h:HeapAt w base p v l)(n:Nat)(hn:n≤l.length)(hl:0<l.length) :
  Calls Tryz.prog 378 #[.iface 394 (.pointer (some ⟨p,0,none⟩)),.int .i64 0,.int .i64 n] w fun e w'=>(∃ x,e = .returned x)∧HeapAt w' base p v (downL ltR n l 0)∧Kept (fun b=>v.ownBlock=some b) w w':=by
 have few:=h.few
 have H0:=Lib.hid h;clear h
 go_enter Tryz.func378,Tryz.ntmps378
 go_wp2
 go_loopg [7] n (fun g t wr=>∃ i:Nat,g=n - i∧t = .int .i64 i∧i<l.length∧∃ l',HeapAt wr base p v l'∧downL ltR n l' i=downL ltR n l 0∧l'.length=l.length∧Kept (fun b=>v.ownBlock=some b) w wr)
 case atStart=>exact ⟨0,rfl,rfl,hl,l,H0.out,rfl,rfl,Kept.refl _ _⟩
 case round=>
  obtain ⟨i,hgk,rfl,hi,l',h1,h2,h3,h4⟩:=hrel
  have H:=Lib.hid h1;have U:=Lib.hid h2;have LN:=Lib.hid h3;have K:=Lib.hid h4;have GK:=Lib.hid hgk
  clear h1 h2 h3 h4 hgk
  obtain ⟨a,ha⟩:∃ a,2 * i+1=a:=⟨_,rfl⟩
  obtain ⟨b,hb⟩:∃ b,a+1=b:=⟨_,rfl⟩
  have ea:2 * (i:Int)+1=(a:Int):=by omega
  have eb:(a:Int)+1=(b:Int):=by omega
  have wa:wrap64 (a:Int)=(a:Int):=by unfold wrap64;omega
  have wb:wrap64 (b:Int)=(b:Int):=by unfold wrap64;omega
  have A:=Lib.hid ha;have B:=Lib.hid hb;have EB:=Lib.hid eb;clear ha hb eb
  have c2:¬ (a:Int)<0:=by omega
  by_cases han:a<n
  ·have c1 : ¬ (n : Int) ≤ (a : Int) := by omega
   have eb:=EB.out
   by_cases hbn:b<n
   ·have c3 : (b : Int) < (n : Int) := by omega
    have hm:=m_less p wr v H.out.cell
    have HA:=Lib.hid han;have HB:=Lib.hid hbn;clear hbn
    cases hx:ltR (nth l' b) (nth l' a) with
    | false=>
     have hk:kidL ltR n l' i=a:=by
      unfold kidL;rw [show 2 * i+2=b by have:=A.out;have:=B.out;omega,A.out,hx];simp
     have HK:=Lib.hid hk;have X:=Lib.hid hx;clear hk hx
     go_wp2_with fail
     refine (less_heap H.out b a (by have:=HB.out;have:=LN.out;omega) (by have:=HA.out;have:=LN.out;omega)).mono ?_
     rw [X.out];rintro e w4 ⟨rfl,K4⟩
     have H4:=Lib.hid (H.out.kept K4);have hm4:=m_less p w4 v H4.out.cell;have KK4:=Lib.hid (K.out.trans K4 (fun _ _ h=>h) (fun _ _ f=>f.elim))
     clear K4
     have GD:=Lib.hid (kidL_gt ltR n l' i)
     cases hy:ltR (nth l' a) (nth l' i) with
     | false=>
      have Y:=Lib.hid hy;clear hy
      go_wp2_with fail
      refine (less_heap H4.out a i (by have:=HA.out;have:=LN.out;omega) (by rw [LN.out];exact hi)).mono ?_
      rw [Y.out];rintro e w5 ⟨rfl,K5⟩
      have H5:=Lib.hid (H4.out.kept K5);have KK5:=Lib.hid (KK4.out.trans K5 (fun _ _ h=>h) (fun _ _ f=>f.elim));clear K5
      go_wp2
      go_ret
      refine ⟨⟨_,rfl⟩,?_,KK5.out⟩
      have e:l'=downL ltR n l 0:=by rw [← U.out,downL,dif_pos (by rw [A.out];exact HA.out),HK.out,Y.out];rfl
      rw [← e];exact H5.out
     | true=>
      have Y:=Lib.hid hy;clear hy
      go_wp2_with fail
      refine (less_heap H4.out a i (by have:=HA.out;have:=LN.out;omega) (by rw [LN.out];exact hi)).mono ?_
      rw [Y.out];rintro e w5 ⟨rfl,K5⟩
      have H5:=Lib.hid (H4.out.kept K5);have KK5:=Lib.hid (KK4.out.trans K5 (fun _ _ h=>h) (fun _ _ f=>f.elim));clear K5
      have hm5:=m_swap p w5 v H5.out.cell
      go_wp2_with fail
      refine (swap_heap H5.out i a (by rw [LN.out];exact hi) (by have:=HA.out;have:=LN.out;omega)).mono ?_
      rintro e w6 ⟨rfl,H6',K6⟩
      have H6:=Lib.hid H6';have KK6:=Lib.hid (KK5.out.trans K6 (fun _ _ h=>h) (fun _ _ h=>h));clear H6' K6
      go_wp2
      go_roundg (n - a)
      case measure=>have:=GK.out;have:=A.out;have:=B.out;have:=HA.out;omega
      case rel=>exact ⟨a,rfl,rfl,by have:=HA.out;omega,_,H6.out,by rw [← U.out];conv=>{ rhs;rw [downL,dif_pos (show 2 * i+1<n by rw [A.out];exact HA.out),HK.out,if_pos Y.out] },by rw [length_swapL];exact LN.out,KK6.out⟩
    | true=>
     have hk:kidL ltR n l' i=b:=by
      unfold kidL;rw [show 2 * i+2=b by have:=A.out;have:=B.out;omega,A.out,hx];simp [HB.out]
     have HK:=Lib.hid hk;have X:=Lib.hid hx;clear hk hx
     go_wp2_with fail
     refine (less_heap H.out b a (by have:=HB.out;have:=LN.out;omega) (by have:=HA.out;have:=LN.out;omega)).mono ?_
     rw [X.out];rintro e w4 ⟨rfl,K4⟩
     have H4:=Lib.hid (H.out.kept K4);have hm4:=m_less p w4 v H4.out.cell;have KK4:=Lib.hid (K.out.trans K4 (fun _ _ h=>h) (fun _ _ f=>f.elim))
     clear K4
     have GD:=Lib.hid (kidL_gt ltR n l' i)
     cases hy:ltR (nth l' b) (nth l' i) with
     | false=>
      have Y:=Lib.hid hy;clear hy
      go_wp2_with fail
      refine (less_heap H4.out b i (by have:=HA.out;have:=LN.out;have:=HB.out;omega) (by rw [LN.out];exact hi)).mono ?_
      rw [Y.out];rintro e w5 ⟨rfl,K5⟩
      have H5:=Lib.hid (H4.out.kept K5);have KK5:=Lib.hid (KK4.out.trans K5 (fun _ _ h=>h) (fun _ _ f=>f.elim));clear K5
      go_wp2
      go_ret
      refine ⟨⟨_,rfl⟩,?_,KK5.out⟩
      have e:l'=downL ltR n l 0:=by rw [← U.out,downL,dif_pos (by rw [A.out];exact HA.out),HK.out,Y.out];rfl
      rw [← e];exact H5.out
     | true=>
      have Y:=Lib.hid hy;clear hy
      go_wp2_with fail
      refine (less_heap H4.out b i (by have:=HA.out;have:=LN.out;have:=HB.out;omega) (by rw [LN.out];exact hi)).mono ?_
      rw [Y.out];rintro e w5 ⟨rfl,K5⟩
      have H5:=Lib.hid (H4.out.kept K5);have KK5:=Lib.hid (KK4.out.trans K5 (fun _ _ h=>h) (fun _ _ f=>f.elim));clear K5
      have hm5:=m_swap p w5 v H5.out.cell
      go_wp2_with fail
      refine (swap_heap H5.out i b (by rw [LN.out];exact hi) (by have:=HA.out;have:=LN.out;have:=HB.out;omega)).mono ?_
      rintro e w6 ⟨rfl,H6',K6⟩
      have H6:=Lib.hid H6';have KK6:=Lib.hid (KK5.out.trans K6 (fun _ _ h=>h) (fun _ _ h=>h));clear H6' K6
      go_wp2
      go_roundg (n - b)
      case measure=>have:=GK.out;have:=A.out;have:=B.out;have:=HA.out;omega
      case rel=>exact ⟨b,rfl,rfl,by have:=HA.out;have:=HB.out;omega,_,H6.out,by rw [← U.out];conv=>{ rhs;rw [downL,dif_pos (show 2 * i+1<n by rw [A.out];exact HA.out),HK.out,if_pos Y.out] },by rw [length_swapL];exact LN.out,KK6.out⟩
   ·have c3 : ¬ (b : Int) < (n : Int) := by omega
    have hm:=m_less p wr v H.out.cell
    have hk:kidL ltR n l' i=a:=by
     unfold kidL;rw [show 2 * i+2=b by have:=A.out;have:=B.out;omega,A.out];simp [hbn]
    have HA:=Lib.hid han;have HB:=Lib.hid hbn;have HK:=Lib.hid hk;clear hbn hk
    skip
    have GD:=Lib.hid (kidL_gt ltR n l' i)
    cases hy:ltR (nth l' a) (nth l' i) with
    | false=>
     have Y:=Lib.hid hy;clear hy
     go_wp2_with fail
     refine (less_heap H.out a i (by have:=HA.out;have:=LN.out;omega) (by rw [LN.out];exact hi)).mono ?_
     rw [Y.out];rintro e w5 ⟨rfl,K5⟩
     have H5:=Lib.hid (H.out.kept K5);have KK5:=Lib.hid (K.out.trans K5 (fun _ _ h=>h) (fun _ _ f=>f.elim));clear K5
     go_wp2
     go_ret
     refine ⟨⟨_,rfl⟩,?_,KK5.out⟩
     have e:l'=downL ltR n l 0:=by rw [← U.out,downL,dif_pos (by rw [A.out];exact HA.out),HK.out,Y.out];rfl
     rw [← e];exact H5.out
    | true=>
     have Y:=Lib.hid hy;clear hy
     go_wp2_with fail
     refine (less_heap H.out a i (by have:=HA.out;have:=LN.out;omega) (by rw [LN.out];exact hi)).mono ?_
     rw [Y.out];rintro e w5 ⟨rfl,K5⟩
     have H5:=Lib.hid (H.out.kept K5);have KK5:=Lib.hid (K.out.trans K5 (fun _ _ h=>h) (fun _ _ f=>f.elim));clear K5
     have hm5:=m_swap p w5 v H5.out.cell
     go_wp2_with fail
     refine (swap_heap H5.out i a (by rw [LN.out];exact hi) (by have:=HA.out;have:=LN.out;omega)).mono ?_
     rintro e w6 ⟨rfl,H6',K6⟩
     have H6:=Lib.hid H6';have KK6:=Lib.hid (KK5.out.trans K6 (fun _ _ h=>h) (fun _ _ h=>h));clear H6' K6
     go_wp2
     go_roundg (n - a)
     case measure=>have:=GK.out;have:=A.out;have:=B.out;have:=HA.out;omega
     case rel=>exact ⟨a,rfl,rfl,by have:=HA.out;omega,_,H6.out,by rw [← U.out];conv=>{ rhs;rw [downL,dif_pos (show 2 * i+1<n by rw [A.out];exact HA.out),HK.out,if_pos Y.out] },by rw [length_swapL];exact LN.out,KK6.out⟩
  ·have c1 : (n : Int) ≤ (a : Int) := by omega
   have HA:=Lib.hid han;clear han
   go_wp2
   go_ret
   refine ⟨⟨_,rfl⟩,?_,K.out⟩
   have e:l'=downL ltR n l 0:=by rw [← U.out,downL,dif_neg (by rw [A.out];exact HA.out)]
   rw [← e];exact H.out
end
/- container/heap's Push and Pop over merges.rows. -/
section
set_option maxRecDepth 100000
open Go.RowKit

set_option maxHeartbeats 2000000 in
theorem heap_push {w:World}{base p:Nat}{v:Value}{l:List Rw}{r:Rw}(h:HeapAt w base p v l)(hr:GoodR w r)(hrp:r.blk≠p)(hrv:v.ownBlock≠some r.blk)(hl:l.length<100)(hb:base≤w.heap.size) :
  Calls Tryz.prog 299 #[.iface 394 (.pointer (some ⟨p,0,none⟩)),.iface 396 (.agg #[.slice (some ⟨r.blk,r.off,none⟩) r.xs.length r.cap,.int .i64 r.place])] w fun e w'=>e = .returned (.tuple #[]) ∧
   ∃ v',HeapAt w' base p v' (pushL ltR l r)∧Kept (mine p v) w w'∧(v'.ownBlock=v.ownBlock∨∀ b,v'.ownBlock=some b→w.heap.size≤b):=by
 have hm:=m_push p
 have H:=Lib.hid h;have R:=Lib.hid hr;have RP:=Lib.hid hrp;have RV:=Lib.hid hrv
 clear h hr hrp hrv
 go_enter Tryz.func299,Tryz.ntmps299
 go_wp2_with fail
 refine (rows_push H.out R.out RP.out RV.out hl hb).mono ?_
 rintro e w1 ⟨rfl,v1,h1,k1,a1⟩
 obtain ⟨q,hq⟩:∃ q,l++[r]=q:=⟨_,rfl⟩
 have hql:q.length=l.length+1:=by rw [← hq];simp
 rw [hq] at h1
 have hm1:=m_len p w1 v1 h1.cell
 obtain ⟨ao,cap,rfl⟩:=h1.slice
 have H1:=Lib.hid h1;have K1:=Lib.hid k1;have A1:=Lib.hid a1;have Q:=Lib.hid hq;have QL:=Lib.hid hql
 clear h1 k1 a1 hq hql
 go_wp2_with fail
 refine (len_rows _ ao q.length cap w1 rfl).mono ?_
 rintro e w2 ⟨rfl,rfl⟩
 have e3:(q.length:Int) - 1=(l.length:Int):=by have:=QL.out;omega
 have e4:wrap64 (l.length:Int)=(l.length:Int):=by unfold wrap64;omega
 go_wp2_with fail
 refine (up_w H1.out l.length (by have:=QL.out;omega)).mono ?_
 rintro e w3 ⟨rfl,h3,k3⟩
 have H3:=Lib.hid h3;have K3:=Lib.hid k3;clear h3 k3
 go_wp2
 go_end0
 refine ⟨rfl,_,by unfold pushL;rw [Q.out];exact H3.out,K1.out.trans K3.out (fun _ _ h=>h) (fun b hb hk=>?_),A1.out⟩
 rcases A1.out with e | e
 ·exact .inr (e ▸ hk)
 ·have:=e b hk;omega

set_option maxHeartbeats 2000000 in
theorem heap_pop {w:World}{base p:Nat}{v:Value}{l:List Rw}(h:HeapAt w base p v l)(hl:0<l.length) :
  Calls Tryz.prog 350 #[.iface 394 (.pointer (some ⟨p,0,none⟩))] w fun e w'=>e = .returned (.iface 396 (.agg #[.slice (some ⟨(nth l 0).blk,(nth l 0).off,none⟩) (nth l 0).xs.length (nth l 0).cap,.int .i64 (nth l 0).place])) ∧
   ∃ v',HeapAt w' base p v' (popL ltR l)∧Kept (mine p v) w w'∧v'.ownBlock=v.ownBlock:=by
 have few:=h.few
 obtain ⟨n,hn⟩:∃ n,l.length - 1=n:=⟨_,rfl⟩
 have hm:=m_len p w v h.cell
 have hne:l≠[]:=fun e=>by rw [e] at hl;simp at hl
 obtain ⟨ao,cap,rfl⟩:=h.slice
 have H:=Lib.hid h;have N:=Lib.hid hn;have NE:=Lib.hid hne;clear h hn hne
 go_enter Tryz.func350,Tryz.ntmps350
 go_wp2_with fail
 refine (len_rows _ ao l.length cap w rfl).mono ?_
 rintro e w2 ⟨rfl,rfl⟩
 have e3:(l.length:Int) - 1=(n:Int):=by have:=N.out;omega
 have e4:wrap64 (n:Int)=(n:Int):=by have:=N.out;unfold wrap64;omega
 have hm2:=m_swap p w _ H.out.cell
 go_wp2_with fail
 refine (swap_heap H.out 0 n hl (by have:=N.out;omega)).mono ?_
 rintro e w3 ⟨rfl,h3,k3⟩
 have H3:=Lib.hid h3;have K3:=Lib.hid k3;clear h3 k3
 go_wp2_with fail
 refine (down_w H3.out n (by rw [length_swapL];have:=N.out;omega) (by rw [length_swapL];exact hl)).mono ?_
 rintro e w4 ⟨⟨x,rfl⟩,h4,k4⟩
 have h5:HeapAt w4 base p (.slice ao l.length cap) (sunkL ltR l):=by unfold sunkL;rw [N.out];exact h4
 have H5:=Lib.hid h5;have K4:=Lib.hid (K3.out.trans k4 (fun _ _ h=>h) (fun _ _ h=>h));clear h4 h5 k4
 have hm4:=m_pop p w4
 have hsl:=length_sunk ltR NE.out
 have hlast:=sunk_last ltR NE.out
 have SL:=Lib.hid hsl;have LA:=Lib.hid hlast;clear hsl hlast
 go_wp2_with fail
 refine (rows_pop H5.out (by rw [SL.out];exact hl)).mono ?_
 rw [SL.out,LA.out]
 rintro e w5 ⟨rfl,v5,h5,k5,a5⟩
 have H6:=Lib.hid h5;have K6:=Lib.hid k5;have A6:=Lib.hid a5;clear h5 k5 a5
 go_wp2
 go_ret
 exact ⟨rfl,v5,H6.out,K4.out.trans K6.out (fun b _ hb=>.inr hb) (fun _ _ h=>h),A6.out⟩
end
end Go.Proofs.YthknocapablpaaaGreatDoor.Mg
