/- A part of the proof. -/
import Derived.Deep.Slices
import Derived.ChangeAt
import Derived.OpenShut
import Derived.Test.YthknocapablpaaaGreatDoorAi2
namespace Go.Proofs.YthknocapablpaaaGreatDoor
/- How lists of acts read as arguments. -/
section
set_option maxRecDepth 100000
open Go.ChangeShapes Go.WideShapes Go.ChangeAt Go.RowKit Go.Deep
theorem cellsOf111':Tryz.prog.cellsOf 96=8:=by kernel_rfl
theorem cellsOf3:Tryz.prog.cellsOf 3=1:=by kernel_rfl
theorem cellsOf9:Tryz.prog.cellsOf 9=1:=by kernel_rfl
section
variable {H:Type}{enc:TypeId × Value→H}{w:World}{base:Nat}{spare:Nat→Bool}{held:Bool}{fuel:Nat}{cs:List Value}{x:DataW H × List MemPlace}
theorem mapM_get {α β:Type}{f:α→Option β}:∀ {l:List α}{r:List β},l.mapM f=some r→r.length=l.length∧∀ (i:Nat)(y:β),r[i]? = some y→∃ z,l[i]? = some z∧f z=some y
 | [],r,h=>by simp at h;subst h;exact ⟨rfl,fun i y hy=>by simp at hy⟩
 | z::l,r,h=>by
  rw [List.mapM_cons] at h
  cases h1:f z with
  | none=>simp [h1] at h
  | some y0=>
   cases h2:l.mapM f with
   | none=>simp [h1,h2] at h
   | some r0=>
    simp [h1,h2] at h
    subst h
    obtain ⟨e,ih⟩:=mapM_get h2
    refine ⟨by simp [e],fun i y hy=>?_⟩
    cases i with
    | zero=>simp at hy;subst hy;exact ⟨z,rfl,h1⟩
    | succ i=>simpa using ih i y (by simpa using hy)
theorem cells_get {a:Addr}{n:Nat}{cs':List Value}(h:w.cells? base a n=some cs'):cs'.length=n∧∀ r u,cs'[r]? = some u→w.cell? (a.add r)=some u:=by
 unfold World.cells? at h
 split at h
 ·obtain ⟨e, hg⟩ := mapM_get h
  refine ⟨by simpa using e,fun r u hu=>?_⟩
  obtain ⟨z,hz,hf⟩:=hg r u hu
  have hr:r<n:=by have:=(List.getElem?_eq_some_iff.1 hu).1;simp at e;omega
  rw [List.getElem?_range hr] at hz
  cases hz;exact hf
 ·cases h
theorem spn_cellsB (h:DataW.trod enc Tryz.prog w base spare held fuel 96 cs=some x):∃ m:Spn,cs=m.cells∧m.se.size≤maxLen∧m.ho.size≤maxLen∧m.no.size≤maxLen:=by
 obtain ⟨xs,n,_,rfl,hl,hlen,hf⟩:=DataW.trod_struct Tryz.underlying96 h
 rw [cellsOf111'] at hl
 match xs,hlen,cs,hl with
 | [y0,y1,y2,y3,y4,y5,y6,y7],_,[c0,c1,c2,c3,c4,c5,c6,c7],_=>
  have h0:=hf 0 _ rfl
  have h1:=hf 1 _ rfl
  have h2:=hf 2 _ rfl
  have h3:=hf 3 _ rfl
  have h4:=hf 4 _ rfl
  have h5:=hf 5 _ rfl
  have h6:=hf 6 _ rfl
  have h7:=hf 7 _ rfl
  simp [cellsOf3] at h0
  simp [cellsOf3] at h1
  simp [cellsOf3] at h2
  simp [cellsOf9] at h3
  simp [cellsOf9] at h4
  simp [cellsOf3] at h5
  simp [cellsOf3] at h6
  simp [cellsOf9] at h7
  obtain ⟨a0,e0,_,_⟩:=DataW.trod_int Tryz.underlying3 h0
  obtain ⟨a1,e1,_,_⟩:=DataW.trod_int Tryz.underlying3 h1
  obtain ⟨a2,e2,_,_⟩:=DataW.trod_int Tryz.underlying3 h2
  obtain ⟨a3,e3,_,b3⟩:=DataW.trod_string Tryz.underlying9 h3
  obtain ⟨a4,e4,_,b4⟩:=DataW.trod_string Tryz.underlying9 h4
  obtain ⟨a5,e5,_,_⟩:=DataW.trod_int Tryz.underlying3 h5
  obtain ⟨a6,e6,_,_⟩:=DataW.trod_int Tryz.underlying3 h6
  obtain ⟨a7,e7,_,b7⟩:=DataW.trod_string Tryz.underlying9 h7
  simp only [List.cons.injEq,and_true] at e0 e1 e2 e3 e4 e5 e6 e7
  exact ⟨⟨a0,a1,a2,a3,a4,a5,a6,a7⟩,by rw [e0,e1,e2,e3,e4,e5,e6,e7];rfl,b3,b4,b7⟩
theorem spans_open (h:DataW.trod enc Tryz.prog w 0 spare held fuel 30 cs=some x) :
  ∃ v,cs=[v]∧∃ R:List Spn,ReadsS w v R∧R.length≤maxLen∧∀ y∈R,y.se.size≤maxLen∧y.ho.size≤maxLen∧y.no.size≤maxLen:=by
 rcases open_slice Tryz.underlying30 h with ⟨hcs,_⟩ | ⟨b,len,cap,m,n,D,Pl,hcs,_,hl,hm,hmm,_,hel⟩
 ·exact ⟨_,hcs,[],⟨none,0,rfl,.inl rfl⟩,by simp,fun y hy=>by cases hy⟩
 ·have hlm : len ≤ m := by rw [hmm]; split <;> omega
  rw [cellsOf111'] at hel
  obtain ⟨f,hf⟩:=choose_lt (n:=len) (p:=fun i (y:Spn)=>(∃ cs',w.cells? 0 (b.add (i * 8)) 8=some cs'∧cs'=y.cells)∧y.se.size≤maxLen∧y.ho.size≤maxLen∧y.no.size≤maxLen) (fun i hi=>by
   obtain ⟨cs',h1,h2⟩:=hel i (by omega)
   obtain ⟨y,e,hb⟩:=spn_cellsB h2
   exact ⟨y,⟨cs',h1,e⟩,hb⟩)
  refine ⟨_,hcs,(List.range len).map f,⟨some b,cap,by simp,?_⟩,by simp;omega,fun y hy=>?_⟩
  ·by_cases h0 : len = 0
   ·left;subst h0;rfl
   ·right
    obtain ⟨⟨cs',h1,h2⟩,_⟩:=hf 0 (by omega)
    obtain ⟨_,hg⟩:=cells_get h1
    have hspot:b.spot=none:=by
     have:=hg 0 (.int .i64 (f 0).tr) (by rw [h2];rfl)
     have:=World.cell?_spot this
     simpa [Addr.add] using this
    obtain ⟨bb,bo,bs⟩:=b
    simp at hspot;subst hspot
    refine ⟨bb,bo,rfl,fun j u hu=>?_⟩
    have hl2:=(List.getElem?_eq_some_iff.1 hu).1
    rw [cellsS_length] at hl2
    simp at hl2
    have hq:j / 8<len:=by omega
    have hj:j=j / 8 * 8+j % 8:=by omega
    have hgm:((List.range len).map f)[j / 8]? = some (f (j / 8)):=by simp [hq]
    rw [hj,cellsS_at _ _ _ hgm _ (Nat.mod_lt _ (by omega))] at hu
    obtain ⟨⟨cs',h1,h2⟩,_⟩:=hf (j / 8) hq
    obtain ⟨_,hg⟩:=cells_get h1
    have:=hg (j % 8) u (by rw [h2];exact hu)
    rw [add_mid,add_mid] at this
    rw [show bo+j=bo+j / 8 * 8+j % 8 by omega]
    exact this
  ·obtain ⟨i, hi, rfl⟩ := List.mem_map.1 hy
   exact (hf i (by simpa using hi)).2
end
theorem cellsOf5:Tryz.prog.cellsOf 5=1:=by kernel_rfl
theorem cellsOf30:Tryz.prog.cellsOf 30=1:=by kernel_rfl
theorem cellsOf34:Tryz.prog.cellsOf 34=3:=by kernel_rfl
theorem cellsOf36:Tryz.prog.cellsOf 36=4:=by kernel_rfl
instance:Inhabited ActP:=⟨⟨0,0,[],0⟩⟩
theorem u8_bounds {k:Int}(h:(Lit.int .u8 k).wf=true):0≤k∧k<256:=by
 simp [Lit.wf,IntKind.min,IntKind.max,IntKind.signed,IntKind.bits] at h
 omega
section
variable {H:Type}{enc:TypeId × Value→H}{w:World}{spare:Nat→Bool}{held:Bool}{fuel:Nat}{cs:List Value}{x:DataW H × List MemPlace}
def GoodA (w:World)(sv:Value)(a:ActP):Prop:=ReadsS w sv a.spans∧a.spans.length≤maxLen∧(∀ y∈a.spans,y.se.size≤maxLen∧y.ho.size≤maxLen∧y.no.size≤maxLen)∧0≤a.ticks∧a.ticks≤255
theorem batch_cells (h:DataW.trod enc Tryz.prog w 0 spare held fuel 34 cs=some x):∃ (a b:Int)(sv:Value),cs=[.int .i64 a,.int .i64 b,sv]∧∃ R:List Spn,ReadsS w sv R∧R.length≤maxLen∧∀ y∈R,y.se.size≤maxLen∧y.ho.size≤maxLen∧y.no.size≤maxLen:=by
 obtain ⟨xs,n,_,rfl,hl,hlen,hf⟩:=DataW.trod_struct Tryz.underlying34 h
 rw [cellsOf34] at hl
 match xs,hlen,cs,hl with
 | [y0,y1,y2],_,[c0,c1,c2],_=>
  have h0:=hf 0 _ rfl
  have h1:=hf 1 _ rfl
  have h2:=hf 2 _ rfl
  simp [cellsOf3] at h0
  simp [cellsOf3] at h1
  simp [cellsOf30] at h2
  obtain ⟨a0,e0,_,_⟩:=DataW.trod_int Tryz.underlying3 h0
  obtain ⟨a1,e1,_,_⟩:=DataW.trod_int Tryz.underlying3 h1
  obtain ⟨v,e2,R,hR⟩:=spans_open h2
  simp only [List.cons.injEq,and_true] at e0 e1 e2
  exact ⟨a0,a1,v,by rw [e0,e1,e2],R,hR⟩
theorem act_cells (h:DataW.trod enc Tryz.prog w 0 spare held fuel 36 cs=some x):∃ (sv:Value)(p:ActP),cs=[.int .i64 p.host,.int .i64 p.first,sv,.int .u8 p.ticks]∧GoodA w sv p:=by
 obtain ⟨xs,n,_,rfl,hl,hlen,hf⟩:=DataW.trod_struct Tryz.underlying36 h
 rw [cellsOf36] at hl
 match xs,hlen,cs,hl with
 | [y0,y1],_,[c0,c1,c2,c3],_=>
  have h0:=hf 0 _ rfl
  have h1:=hf 1 _ rfl
  simp [cellsOf34] at h0
  simp [cellsOf5] at h1
  obtain ⟨a,b,sv,e0,R,r1,r2,r3⟩:=batch_cells h0
  obtain ⟨t,e1,_,hw⟩:=DataW.trod_int Tryz.underlying5 h1
  have ht:=u8_bounds hw
  simp only [List.cons.injEq,and_true] at e0 e1
  obtain ⟨rfl,rfl,rfl⟩:=e0
  subst e1
  exact ⟨c2,⟨a,b,R,t⟩,rfl,r1,r2,r3,ht.1,by have:=ht.2;show t≤255;omega⟩
theorem acts_open {a:Option Addr}{len cap:Nat}(h:DataW.trod enc Tryz.prog w 0 spare held fuel 22 [.slice a len cap]=some x):∃ A:List ActP,ReadsA w (.slice a len cap) A∧FitsA A:=by
 rcases open_slice Tryz.underlying22 h with ⟨hcs,_⟩ | ⟨b,len,cap,m,n,D,Pl,hcs,_,hl,hm,hmm,_,hel⟩
 ·obtain ⟨rfl, rfl, rfl⟩ : a = none ∧ len = 0 ∧ cap = 0 := by simpa using hcs
  exact ⟨[],⟨none,0,rfl,.inl rfl⟩,⟨by simp,fun y hy=>(by cases hy),fun y hy=>(by cases hy),fun y hy=>(by cases hy)⟩⟩
 ·obtain ⟨rfl, rfl, rfl⟩ : a = some b ∧ _ = len ∧ _ = cap := by simpa using hcs
  have hlm:len≤m:=by rw [hmm];split <;> omega
  rw [cellsOf36] at hel
  obtain ⟨f,hf⟩:=choose_lt (n:=len) (p:=fun i (y:ActP)=>∃ (sv:Value),w.cells? 0 (b.add (i * 4)) 4=some [.int .i64 y.host,.int .i64 y.first,sv,.int .u8 y.ticks]∧GoodA w sv y) (fun i hi=>by
   obtain ⟨cs',h1,h2⟩:=hel i (by omega)
   obtain ⟨sv,y,e,hb⟩:=act_cells h2
   exact ⟨y,sv,by rw [h1,e],hb⟩)
  refine ⟨(List.range len).map f,⟨some b,cap,by simp,?_⟩,?_⟩
  ·by_cases h0 : len = 0
   ·left;subst h0;rfl
   ·right
    obtain ⟨sv,h1,_⟩:=hf 0 (by omega)
    obtain ⟨_,hg⟩:=cells_get h1
    have hspot:b.spot=none:=by
     have:=hg 0 (.int .i64 (f 0).host) rfl
     have:=World.cell?_spot this
     simpa [Addr.add] using this
    obtain ⟨bb,bo,bs⟩:=b
    simp at hspot;subst hspot
    refine ⟨bb,bo,rfl,fun i y hy=>?_⟩
    have hi:i<len:=by have:=(List.getElem?_eq_some_iff.1 hy).1;simpa using this
    have ey:y=f i:=by simpa [hi] using hy.symm
    subst ey
    obtain ⟨sv,h1,g⟩:=hf i hi
    obtain ⟨_,hg⟩:=cells_get h1
    refine ⟨sv,?_,?_,?_,g.1,?_⟩
    ·have := hg 0 _ rfl
     rwa [add_mid,add_mid] at this
    ·have := hg 1 _ rfl
     rwa [add_mid,add_mid] at this
    ·have := hg 2 _ rfl
     rwa [add_mid,add_mid] at this
    ·have := hg 3 _ rfl
     rwa [add_mid,add_mid] at this
  ·have hall:∀ y∈(List.range len).map f,∃ sv,GoodA w sv y:=fun y hy=>by
    obtain ⟨i,hi,rfl⟩:=List.mem_map.1 hy
    obtain ⟨sv,_,g⟩:=hf i (by simpa using hi)
    exact ⟨sv,g⟩
   refine ⟨?_,fun y hy=>?_,fun y hy=>?_,fun y hy m hm=>?_⟩
   ·simp;unfold maxLen at *;omega
   ·obtain ⟨sv,g⟩:=hall y hy;exact g.2.2.2
   ·obtain ⟨sv,g⟩:=hall y hy;have:=g.2.1;unfold maxLen at this;omega
   ·obtain ⟨sv,g⟩:=hall y hy;have:=g.2.2.1 m hm;unfold maxLen at this;exact this
end
end
end Go.Proofs.YthknocapablpaaaGreatDoor
