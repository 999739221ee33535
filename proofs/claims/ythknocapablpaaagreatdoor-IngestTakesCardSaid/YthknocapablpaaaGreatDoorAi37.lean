/- A part of the proof. -/
import Derived.Lib.ItoaNum
import Derived.Test.YthknocapablpaaaGreatDoorAi20
import Derived.Test.YthknocapablpaaaGreatDoorAi22
import Derived.Test.YthknocapablpaaaGreatDoorAi23
import Derived.Test.YthknocapablpaaaGreatDoorAi32
import Derived.Test.YthknocapablpaaaGreatDoorAi36
namespace Go.Proofs.YthknocapablpaaaGreatDoor
/- ints.Get of a number that was put: plainly. -/
section
open Go.RowKit Go.Lib Go.Eng
set_option maxRecDepth 100000
/-- A byte of a number of so many. -/
def digJ (m:Nat)(n:Int)(j:Nat):Int:=n / 128 ^ (m - 1 - j) % 128+(if j+1<m then 128 else 0)
theorem putL_get:∀ (m:Nat)(n:Int)(j:Nat),j<m→(putL m n)[j]? = some (digJ m n j)
 | 0,_,j,h=>by omega
 | 1,n,j,h=>by
  have:j=0:=by omega
  subst this
  simp [putL,digJ]
 | m+2,n,0,h=>by simp [putL,digJ]
 | m+2,n,j+1,h=>by
  have ih:=putL_get (m+1) n j (by omega)
  simp only [putL,List.getElem?_cons_succ,ih,digJ]
  have e1:m+1 - 1 - j=m+2 - 1 - (j+1):=by omega
  have e2:(j+1<m+1) ↔ (j+1+1<m+2):=by omega
  rw [e1]
  simp only [e2]
theorem digJ_fit (m:Nat)(n:Int)(j:Nat):0≤digJ m n j∧digJ m n j<256:=by
 unfold digJ
 split <;> omega
theorem putM_spec (n:Int)(h0:0≤n)(h1:n≤9223372036854775807):1≤putM n∧putM n≤9∧n<128 ^ putM n∧(2≤putM n→128 ^ (putM n - 1)≤n):=by
 obtain ⟨x,rfl⟩:=Int.eq_ofNat_of_zero_le h0
 have hx:x<2 ^ 64:=by omega
 have hb:Lib.bitLen x≤63:=Lib.bitLen_le _ 63 (by omega) (by omega)
 unfold putM
 simp only [Int.toNat_natCast]
 obtain ⟨L,hL⟩:∃ L,Lib.bitLen x=L:=⟨_,rfl⟩
 obtain ⟨m,hm⟩:∃ m,max 1 ((L+7 - 1) / 7)=m:=⟨_,rfl⟩
 rw [hL] at hb ⊢
 rw [hm]
 have p:∀ k:Nat,(128:Nat) ^ k=2 ^ (7 * k):=fun k=>by rw [Nat.pow_mul]
 by_cases hz:x=0
 ·subst hz
  have:L=0:=by rw [← hL];decide
  subst this
  have:m=1:=by omega
  subst this
  exact ⟨by omega,by omega,by decide,by omega⟩
 ·obtain ⟨b1, b2, b3⟩ := Lib.bitLenAux_bounds 64 x hx hz
  change 1≤Lib.bitLen x at b1
  change 2 ^ (Lib.bitLen x - 1)≤x at b2
  change x<2 ^ Lib.bitLen x at b3
  rw [hL] at b1 b2 b3
  refine ⟨by omega,by omega,?_,fun h2=>?_⟩
  ·have h3 : (2 : Nat) ^ L ≤ 2 ^ (7 * m) := Nat.pow_le_pow_right (by omega) (by omega)
   have h4:x<128 ^ m:=by rw [p];omega
   exact_mod_cast h4
  ·have h3 : (2 : Nat) ^ (7 * (m - 1)) ≤ 2 ^ (L - 1) := Nat.pow_le_pow_right (by omega) (by omega)
   have h4:128 ^ (m - 1)≤x:=by rw [p];omega
   exact_mod_cast h4
theorem bits_put (x:Int)(h0:0≤x)(h1:x≤9223372036854775807):bits .or .i64 (x / 128 * 128) (x % 128)=x:=by
 rw [bits_join .i64 63 (by decide) (fun n hn h=>by rw [IntKind.wrap_i64];omega) 7 (x / 128 * 128) (x % 128) (by omega) (by omega) (by omega) (by omega) (by omega) (by omega)]
 omega
/-- The value of the first digits. -/
def valJ (m:Nat)(n:Int)(i:Nat):Int:=n / 128 ^ (m - i)
theorem valJ_step {m i:Nat}{n:Int}(h:i<m):valJ m n i=valJ m n (i+1) / 128∧digJ m n i=valJ m n (i+1) % 128+(if i+1<m then 128 else 0):=by
 unfold valJ digJ
 have e:m - i=(m - (i+1))+1:=by omega
 have e2:m - 1 - i=m - (i+1):=by omega
 rw [e,e2]
 refine ⟨?_,rfl⟩
 rw [Int.pow_succ,Int.ediv_ediv_of_nonneg (Int.pow_nonneg (by omega))]
theorem valJ_fit {m i:Nat}{n:Int}(h0:0≤n)(h1:n≤9223372036854775807):0≤valJ m n i∧valJ m n i≤9223372036854775807:=by
 unfold valJ
 have hp:(0:Int)<128 ^ (m - i):=Int.pow_pos (by omega)
 refine ⟨Int.ediv_nonneg h0 (by omega),Int.le_trans ?_ h1⟩
 exact Int.ediv_le_self _ h0
theorem valJ_zero {m:Nat}{n:Int}(h0:0≤n)(h:n<128 ^ m):valJ m n 0=0:=by
 unfold valJ
 rw [Nat.sub_zero]
 exact Int.ediv_eq_zero_of_lt h0 h
theorem valJ_whole {m:Nat}{n:Int}:valJ m n m=n:=by
 unfold valJ
 rw [Nat.sub_self]
 simp
theorem digJ_first {m:Nat}{n:Int}(_h0:0≤n)(h:2≤m→128 ^ (m - 1)≤n)(h2:n<128 ^ m)(_hm:1≤m):digJ m n 0≠128:=by
 unfold digJ
 split
 ·have hp : (0 : Int) < 128 ^ (m - 1) := Int.pow_pos (by omega)
  have h3:n / 128 ^ (m - 1)<128:=by
   apply Int.ediv_lt_of_lt_mul hp
   have e:m=(m - 1)+1:=by omega
   rw [e,Int.pow_succ] at h2
   rw [Int.mul_comm]
   exact h2
  have h4:1≤n / 128 ^ (m - 1):=by
   rw [Int.le_ediv_iff_mul_le hp]
   have:=h (by omega)
   omega
  have e2:m - 1 - 0=m - 1:=by omega
  rw [e2]
  omega
 ·omega
/-- A text that stands in another one. -/
def StandsAt (s:ByteArray)(a:Nat)(x:ByteArray):Prop:=∃ pre post:List UInt8,s.data.toList=pre++x.data.toList++post∧a=pre.length
theorem StandsAt.size {s x:ByteArray}{a:Nat}(h:StandsAt s a x):a+x.size≤s.size:=by
 obtain ⟨pre,post,h,rfl⟩:=h
 have:=congrArg List.length h
 rw [data_length] at this
 simp only [List.length_append,data_length] at this
 omega
theorem StandsAt.get {s x:ByteArray}{a j:Nat}(h:StandsAt s a x)(hj:j<x.size):∃ hs:a+j<s.size,s[a+j]=x[j]:=by
 have hz:=h.size
 refine ⟨by omega,?_⟩
 obtain ⟨pre,post,h,rfl⟩:=h
 have h1:s.data.toList[pre.length+j]? = x.data.toList[j]?:=by
  rw [h,List.append_assoc,List.getElem?_append_right (by omega)]
  rw [show pre.length+j - pre.length=j by omega]
  rw [List.getElem?_append_left (by rw [data_length];exact hj)]
 rw [List.getElem?_eq_getElem (by rw [data_length];omega),List.getElem?_eq_getElem (by rw [data_length];exact hj)] at h1
 exact Option.some.inj h1
theorem put_get {n:Int}{j:Nat}(h0:0≤n)(hj:j<putM n):∃ hs:j<(putF n).size,((putF n)[j].toNat:Int)=digJ (putM n) n j:=by
 have e:putF n=strOfNums (putL (putM n) n):=by unfold putF;rw [if_neg (by omega)]
 have hz:(putF n).size=putM n:=by rw [e,strOfNums_size,putL_length]
 refine ⟨by omega,?_⟩
 have h1:(putF n).data.toList[j]? = some (UInt8.ofNat (digJ (putM n) n j).toNat):=by
  rw [e,strOfNums_data,List.getElem?_map,putL_get _ _ _ hj]
  rfl
 rw [List.getElem?_eq_getElem (by rw [data_length];omega)] at h1
 have h2:(putF n)[j]'(by omega)=UInt8.ofNat (digJ (putM n) n j).toNat:=Option.some.inj h1
 rw [h2]
 have:=digJ_fit (putM n) n j
 rw [UInt8.toNat_ofNat']
 omega
theorem putF_sz {n:Int}(h0:0≤n):(putF n).size=putM n:=by
 unfold putF
 rw [if_neg (by omega),strOfNums_size,putL_length]
end
/- ints.Get of a number that was put: the walk. -/
section
open Go.RowKit Go.Lib Go.Eng
set_option maxRecDepth 100000
theorem an_all:∀ x:Fin 256,bits .andNot .u8 (x.val:Int) 128=(x.val:Int) % 128:=by decide +kernel
theorem an_any (x:Int)(h0:0≤x)(h1:x<256):bits .andNot .u8 x 128=x % 128:=by
 have:=an_all ⟨x.toNat,by omega⟩
 have e:((x.toNat:Nat):Int)=x:=by omega
 simp only [e] at this
 exact this
theorem get_byte {s:ByteArray}{a j:Nat}{n:Int}(h:StandsAt s a (putF n))(h0:0≤n)(hj:j<putM n):∃ hs:a+j<s.size,((s[a+j]).toNat:Int)=digJ (putM n) n j:=by
 obtain ⟨h1,h2⟩:=put_get h0 hj
 obtain ⟨h3,h4⟩:=h.get h1
 exact ⟨h3,by rw [h4,h2]⟩
theorem wr7 (x:Int)(h0:0≤x)(h1:x≤9223372036854775807):wrap64 (x / 128 * 128)=x / 128 * 128∧wrap64 (x % 128)=x % 128:=by
 unfold wrap64
 omega
attribute [local irreducible] valJ digJ putM putF bits
set_option maxHeartbeats 4000000 in
theorem get_put {s:ByteArray}{a:Nat}{n:Int}(h:StandsAt s a (putF n))(h0:0≤n)(h1:n≤9223372036854775807)(hs:s.size≤100000)(w:World) :
  Calls Tryz.prog 279 #[.string s,.int .i64 a] w fun e w'=>e = .returned (.tuple #[.int .i64 n,.int .i64 (a+(putF n).size:Nat),.bool true])∧Kept (fun _=>False) w w':=by
 obtain ⟨m1,m2,m3,m4⟩:=putM_spec n h0 h1
 rw [putF_sz h0]
 have hz:=h.size
 rw [putF_sz h0] at hz
 have hd0:=digJ_first h0 m4 m3 m1
 have IX:=Lib.hid (fun j hj=>get_byte (j:=j) h h0 hj)
 have VS:=Lib.hid (fun i (hi:i<putM n)=>valJ_step (n:=n) hi)
 have VF:=Lib.hid (fun i=>valJ_fit (m:=putM n) (i:=i) h0 h1)
 have V0:=Lib.hid (valJ_zero h0 m3)
 have VW:=Lib.hid (valJ_whole (m:=putM n) (n:=n))
 have DF:=Lib.hid (fun j=>digJ_fit (putM n) n j)
 obtain ⟨m,hm⟩:∃ m,putM n=m:=⟨_,rfl⟩
 rw [hm] at m1 m2 hz hd0 IX VS VF V0 VW DF ⊢
 clear m3 m4 hm h
 obtain ⟨hlt0,x0⟩:=IX.out 0 (by omega)
 simp only [Nat.add_zero] at x0 hlt0
 obtain ⟨d0,hd⟩:∃ d,digJ m n 0=d:=⟨_,rfl⟩
 rw [hd] at x0 hd0
 have hdd:(d0 == 128)=false:=by simpa using hd0
 obtain ⟨k,hk⟩:∃ k:Nat,s.size - a=k:=⟨_,rfl⟩
 have e1:decide ((a:Int)<0)=false:=by simp
 have e2:decide (s.size≤a)=false:=by simp;omega
 have hw:wrap64 ((s.size:Int) - (a:Int))=(k:Int):=by unfold wrap64;omega
 have hw':IntKind.i64.wrap ((s.size:Int) - (a:Int))=(k:Int):=by rw [IntKind.wrap_i64];omega
 obtain ⟨r,hr⟩:∃ r:Nat,min 9 k=r:=⟨_,rfl⟩
 have hmin:∀ (w:World) (ts:Array TypeId) (t:TypeId),(Builtin.min_ ts t #[.int .i64 9,.int .i64 (k:Int)]).run Tryz.prog w = .ok (.int .i64 (r:Int)) w:=fun w ts t=>by
  rw [Lib.run_min_ints]
  congr 2
  omega
 have hmr:m≤r:=by omega
 have ha:a≤100000:=by omega
 clear hr hk hz hd
 go_enter Tryz.func279,Tryz.ntmps279
 go_wp2_with fail
 go_loopg [4,28] m (fun gh t4 t28 wr=>∃ i:Nat,i+gh=m∧0<gh∧t28 = .int .i64 i∧t4 = .int .i64 (valJ m n i)∧wr=w)
 case atStart=>exact ⟨0,by omega,by omega,rfl,by rw [V0.out],rfl⟩
 case round=>
  obtain ⟨i,hi,hg,rfl,rfl,rfl⟩:=hrel
  have hlt:i<m:=by omega
  have hi2:a+i≤1000000:=by omega
  have hi3:i+1≤1000000:=by omega
  have i1:(i:Int)<(r:Int):=by omega
  obtain ⟨v1,v2⟩:=VS.out i hlt
  obtain ⟨f1,f2⟩:=VF.out (i+1)
  obtain ⟨hj,y0⟩:=IX.out i hlt
  obtain ⟨x,hx⟩:∃ x,valJ m n (i+1)=x:=⟨_,rfl⟩
  rw [hx] at v1 v2 f1 f2
  have i4:0≤(a:Int)+(i:Int)∧(a:Int)+(i:Int)<(s.size:Int):=⟨by omega,by omega⟩
  have OR:=Lib.hid (bits_put x f1 f2)
  have WR:=Lib.hid (wr7 x f1 f2)
  have A:=Lib.hid (an_any _ (DF.out i).1 (DF.out i).2)
  rw [v1]
  have hdv:(i+1<m∧¬ digJ m n i<128∧digJ m n i % 128=x % 128)∨(i+1=m∧digJ m n i<128∧digJ m n i % 128=x % 128):=by
   by_cases hl:i+1<m
   ·rw [if_pos hl] at v2
    exact .inl ⟨hl,by omega,by omega⟩
   ·rw [if_neg hl] at v2
    exact .inr ⟨by omega,by omega,by omega⟩
  obtain ⟨v,hv⟩:∃ v,x / 128=v:=⟨_,rfl⟩
  obtain ⟨u,hu⟩:∃ u,v * 128=u:=⟨_,rfl⟩
  obtain ⟨y,hy⟩:∃ y,x % 128=y:=⟨_,rfl⟩
  obtain ⟨d,hd⟩:∃ d,digJ m n i=d:=⟨_,rfl⟩
  rw [hd] at y0 hdv A
  rw [hy] at hdv WR OR
  rw [hv,hu] at WR OR
  rw [hv]
  clear v1 v2 hv hy hd f1 f2
  rcases hdv with ⟨hl,v4,v3⟩ | ⟨hl,v4,v3⟩
  ·rw [v3] at A
   have s1:=WR.out.1
   have s2:=WR.out.2
   have s3:=A.out
   have s4:=OR.out
   go_wp2_with fail
   go_roundg (gk - 1)
   case measure=>omega
   case rel=>exact ⟨i+1,by omega,by omega,by simp,by rw [hx],rfl⟩
  ·rw [v3] at A
   have s1:=WR.out.1
   have s2:=WR.out.2
   have s3:=A.out
   have s4:=OR.out
   go_wp2_with fail
   have hxn:x=n:=by
    rw [← hx,hl]
    exact VW.out
   have e1:(a:Int)+(i:Int)+1=((a+m:Nat):Int):=by omega
   rw [hxn,e1]
   go_ret3
   exact ⟨rfl,Kept.refl _ _⟩
theorem get_none {a:Nat}(w:World):Calls Tryz.prog 279 #[.string ⟨#[]⟩,.int .i64 a] w fun e w'=>e = .returned (.tuple #[.int .i64 0,.int .i64 0,.bool false])∧Kept (fun _=>False) w w':=by
 have e1:decide ((a:Int)<0)=false:=by simp
 have e2:(⟨#[]⟩:ByteArray).size=0:=rfl
 go_enter Tryz.func279,Tryz.ntmps279
 go_wp2_with fail
 go_ret3
 exact ⟨rfl,Kept.refl _ _⟩
theorem StandsAt.left {s x y:ByteArray}{a:Nat}(h:StandsAt s a (x++y)):StandsAt s a x:=by
 obtain ⟨pre,post,h,e⟩:=h
 refine ⟨pre,y.data.toList++post,?_,e⟩
 rw [h]
 simp [ByteArray.data_append]
theorem StandsAt.right {s x y:ByteArray}{a:Nat}(h:StandsAt s a (x++y)):StandsAt s (a+x.size) y:=by
 obtain ⟨pre,post,h,e⟩:=h
 refine ⟨pre++x.data.toList,post,?_,?_⟩
 ·rw [h]
  simp [ByteArray.data_append]
 ·rw [List.length_append,data_length,e]
theorem StandsAt.cut {s x:ByteArray}{a:Nat}(h:StandsAt s a x):s.extract a (a+x.size)=x:=by
 obtain ⟨pre,post,h,rfl⟩:=h
 apply ByteArray.ext
 apply Array.toList_inj.1
 rw [ByteArray.data_extract,Array.toList_extract,h]
 rw [List.extract_eq_take_drop]
 simp
set_option maxHeartbeats 4000000 in
theorem gettext_put {s x:ByteArray}{a:Nat}(h:StandsAt s a (ptxt x))(hs:s.size≤100000)(w:World) :
  Calls Tryz.prog 280 #[.string s,.int .i64 a] w fun e w'=>e = .returned (.tuple #[.string x,.int .i64 (a+(ptxt x).size:Nat),.bool true])∧Kept (fun _=>False) w w':=by
 have h1:=h.left
 have h2:=h.right
 have hz:=h.size
 have ez:(ptxt x).size=(putF (x.size:Int)).size+x.size:=by unfold ptxt;rw [ByteArray.size_append]
 have GT:=Lib.hid (get_put h1 (by omega) (by omega) hs)
 have CT:=Lib.hid h2.cut
 rw [ez] at hz ⊢
 obtain ⟨p,hp⟩:∃ p,(putF (x.size:Int)).size=p:=⟨_,rfl⟩
 rw [hp] at GT CT hz ⊢
 obtain ⟨n,hn⟩:∃ n,x.size=n:=⟨_,rfl⟩
 rw [hn] at GT CT hz ⊢
 obtain ⟨q,hq⟩:∃ q,a+p=q:=⟨_,rfl⟩
 rw [hq] at GT CT
 rw [← Nat.add_assoc,hq]
 have ha:q+n≤s.size:=by omega
 clear h h1 h2 ez hp hn hq hz
 go_enter Tryz.func280,Tryz.ntmps280
 go_wp2_with (go_at_call 279;refine (GT.out _).mono ?_;rintro e w1 ⟨rfl,k1⟩)
 rw [CT.out]
 go_ret3
 exact ⟨by simp,k1⟩
end
/- spans.Take of a span's bytes. -/
section
open Go.RowKit Go.Lib Go.Eng
set_option maxRecDepth 100000
theorem encF_list (m:Spn):(encF m).data.toList=accT m 3:=by simp [encF]
theorem stands_num (m:Spn):∀ i,i<5→StandsAt (encF m) (accN m i).length (putF (numJ m i))
 | 0,_=>⟨accN m 0,_,by rw [encF_list];simp only [accT,accN,List.append_assoc];rfl,rfl⟩
 | 1,_=>⟨accN m 1,_,by rw [encF_list];simp only [accT,accN,List.append_assoc];rfl,rfl⟩
 | 2,_=>⟨accN m 2,_,by rw [encF_list];simp only [accT,accN,List.append_assoc];rfl,rfl⟩
 | 3,_=>⟨accN m 3,_,by rw [encF_list];simp only [accT,accN,List.append_assoc];rfl,rfl⟩
 | 4,_=>⟨accN m 4,_,by rw [encF_list];simp only [accT,accN,List.append_assoc];rfl,rfl⟩
 | i+5,h=>by omega
theorem stands_text (m:Spn):∀ i,i<3→StandsAt (encF m) (accT m i).length (ptxt (textJ m i))
 | 0,_=>⟨accT m 0,_,by rw [encF_list];simp only [accT,List.append_assoc];rfl,rfl⟩
 | 1,_=>⟨accT m 1,_,by rw [encF_list];simp only [accT,List.append_assoc];rfl,rfl⟩
 | 2,_=>⟨accT m 2,[],by rw [encF_list];simp only [accT,List.append_assoc,List.append_nil],rfl⟩
 | i+3,h=>by omega
theorem accN_succ (m:Spn)(i:Nat):(accN m (i+1)).length=(accN m i).length+(putF (numJ m i)).size:=by
 rw [accN,List.length_append,data_length]
theorem accT_succ (m:Spn)(i:Nat):(accT m (i+1)).length=(accT m i).length+(ptxt (textJ m i)).size:=by
 rw [accT,List.length_append,data_length]
/-- A span some numbers of which are read. -/
def parN (m:Spn)(i:Nat):Spn:=⟨if 0<i then m.tr else 0,if 1<i then m.id else 0,if 2<i then m.pa else 0,⟨#[]⟩,⟨#[]⟩,if 3<i then m.st else 0,if 4<i then m.du else 0,⟨#[]⟩⟩
/-- And some texts. -/
def parT (m:Spn)(i:Nat):Spn:=⟨m.tr,m.id,m.pa,if 0<i then m.se else ⟨#[]⟩,if 1<i then m.ho else ⟨#[]⟩,m.st,m.du,if 2<i then m.no else ⟨#[]⟩⟩
theorem parN_whole (m:Spn):parN m 5=parT m 0:=rfl
theorem parT_whole (m:Spn):parT m 3=m:=rfl
theorem SpanAt.of8 {w:World}{p:Nat}{m:Spn}(h0:w.cell? ⟨p,0,none⟩=some (.int .i64 m.tr))(h1:w.cell? ⟨p,1,none⟩=some (.int .i64 m.id))(h2:w.cell? ⟨p,2,none⟩=some (.int .i64 m.pa))(h3:w.cell? ⟨p,3,none⟩=some (.string m.se))(h4:w.cell? ⟨p,4,none⟩=some (.string m.ho))(h5:w.cell? ⟨p,5,none⟩=some (.int .i64 m.st))(h6:w.cell? ⟨p,6,none⟩=some (.int .i64 m.du))(h7:w.cell? ⟨p,7,none⟩=some (.string m.no)):SpanAt w p m:=by
 intro j u hu
 match j,hu with
 | 0,hu=>simp [Spn.cells] at hu;subst hu;exact h0
 | 1,hu=>simp [Spn.cells] at hu;subst hu;exact h1
 | 2,hu=>simp [Spn.cells] at hu;subst hu;exact h2
 | 3,hu=>simp [Spn.cells] at hu;subst hu;exact h3
 | 4,hu=>simp [Spn.cells] at hu;subst hu;exact h4
 | 5,hu=>simp [Spn.cells] at hu;subst hu;exact h5
 | 6,hu=>simp [Spn.cells] at hu;subst hu;exact h6
 | 7,hu=>simp [Spn.cells] at hu;subst hu;exact h7
 | j+8,hu=>simp [Spn.cells] at hu
theorem SpanAt.all8 {w:World}{p:Nat}{m:Spn}(h:SpanAt w p m):w.cell? ⟨p,0,none⟩=some (.int .i64 m.tr)∧w.cell? ⟨p,1,none⟩=some (.int .i64 m.id)∧w.cell? ⟨p,2,none⟩=some (.int .i64 m.pa)∧w.cell? ⟨p,3,none⟩=some (.string m.se)∧w.cell? ⟨p,4,none⟩=some (.string m.ho)∧w.cell? ⟨p,5,none⟩=some (.int .i64 m.st)∧w.cell? ⟨p,6,none⟩=some (.int .i64 m.du)∧w.cell? ⟨p,7,none⟩=some (.string m.no):=
 ⟨h 0 _ rfl,h 1 _ rfl,h 2 _ rfl,h 3 _ rfl,h 4 _ rfl,h 5 _ rfl,h 6 _ rfl,h 7 _ rfl⟩
theorem parN_step {w:World}{p:Nat}{m:Spn}:∀ {i:Nat},i<5→SpanAt w p (parN m i)→SpanAt (w.setCell ⟨p,offJ i,none⟩ (.int .i64 (numJ m i))) p (parN m (i+1)):=by
 intro i hi h
 obtain ⟨h0,h1,h2,h3,h4,h5,h6,h7⟩:=h.all8
 match i,hi with
 | 0,_=>simp only [parN] at *;refine SpanAt.of8 ?_ ?_ ?_ ?_ ?_ ?_ ?_ ?_ <;> simp [go_sem,offJ,numJ,h0,h1,h2,h3,h4,h5,h6,h7]
 | 1,_=>simp only [parN] at *;refine SpanAt.of8 ?_ ?_ ?_ ?_ ?_ ?_ ?_ ?_ <;> simp [go_sem,offJ,numJ,h0,h1,h2,h3,h4,h5,h6,h7]
 | 2,_=>simp only [parN] at *;refine SpanAt.of8 ?_ ?_ ?_ ?_ ?_ ?_ ?_ ?_ <;> simp [go_sem,offJ,numJ,h0,h1,h2,h3,h4,h5,h6,h7]
 | 3,_=>simp only [parN] at *;refine SpanAt.of8 ?_ ?_ ?_ ?_ ?_ ?_ ?_ ?_ <;> simp [go_sem,offJ,numJ,h0,h1,h2,h3,h4,h5,h6,h7]
 | 4,_=>simp only [parN] at *;refine SpanAt.of8 ?_ ?_ ?_ ?_ ?_ ?_ ?_ ?_ <;> simp [go_sem,offJ,numJ,h0,h1,h2,h3,h4,h5,h6,h7]
 | i+5,hi=>omega
theorem parT_step {w:World}{p:Nat}{m:Spn}:∀ {i:Nat},i<3→SpanAt w p (parT m i)→SpanAt (w.setCell ⟨p,offT i,none⟩ (.string (textJ m i))) p (parT m (i+1)):=by
 intro i hi h
 obtain ⟨h0,h1,h2,h3,h4,h5,h6,h7⟩:=h.all8
 match i,hi with
 | 0,_=>simp only [parT] at *;refine SpanAt.of8 ?_ ?_ ?_ ?_ ?_ ?_ ?_ ?_ <;> simp [go_sem,offT,textJ,h0,h1,h2,h3,h4,h5,h6,h7]
 | 1,_=>simp only [parT] at *;refine SpanAt.of8 ?_ ?_ ?_ ?_ ?_ ?_ ?_ ?_ <;> simp [go_sem,offT,textJ,h0,h1,h2,h3,h4,h5,h6,h7]
 | 2,_=>simp only [parT] at *;refine SpanAt.of8 ?_ ?_ ?_ ?_ ?_ ?_ ?_ ?_ <;> simp [go_sem,offT,textJ,h0,h1,h2,h3,h4,h5,h6,h7]
 | i+3,hi=>omega
end
/- spans.Take of a span's bytes: the walk. -/
section
open Go.RowKit Go.Lib Go.Eng
set_option maxRecDepth 100000
theorem results_cell_tmp2 {fn:Func}{p u x:Tmp}{ty:TypeId}(h:fn.results=#[.cell p ty,.tmp u,.tmp x])(tmps:Array Value)(P:Program)(w:World) :
  (results fn tmps).run P w =
   ((asAddr (tmps.getD p undef)).run P w).andThen fun a w₁=>((loadVar ty a).run P w₁).andThen fun v w₂=>.ok (.tuple #[v,tmps.getD u undef,tmps.getD x undef]) w₂:=by
 simp only [results,h]
 simp [Sem.run_bind,Result.andThen]
theorem zeroSpan (w:World)(m:Spn):SpanAt (w.alloc (.cells #[.int .i64 0,.int .i64 0,.int .i64 0,.string ⟨#[]⟩,.string ⟨#[]⟩,.int .i64 0,.int .i64 0,.string ⟨#[]⟩] 96)) w.heap.size (parN m 0):=SpanAt.new (m:=parN m 0)
set_option maxHeartbeats 8000000 in
theorem take_any (m:Spn)(hB:chkB m=true)(hsz:(encF m).size≤1000)(w:World) :
  Calls Tryz.prog 257 #[.string (encF m),.int .i64 0] w fun e w'=>e = .returned (.tuple #[aggS m,.int .i64 ((encF m).size:Nat),.bool true])∧Kept (fun _=>False) w w':=by
 have nm:=chk_num hB
 have NF:=Lib.hid (show ∀ i,0≤numJ m i∧numJ m i≤9223372036854775807 from fun i=>by
  match i with
  | 0=>show 0≤m.tr∧m.tr≤_;omega
  | 1=>show 0≤m.id∧m.id≤_;omega
  | 2=>show 0≤m.pa∧m.pa≤_;omega
  | 3=>show 0≤m.st∧m.st≤_;omega
  | i+4=>show 0≤m.du∧m.du≤_;omega)
 have SN:=Lib.hid (stands_num m)
 have ST:=Lib.hid (stands_text m)
 have LN:=Lib.hid (accN_succ m)
 have LT:=Lib.hid (accT_succ m)
 have LW:=Lib.hid (show (accT m 3).length=(encF m).size by rw [← encF_list,data_length])
 obtain ⟨s,hs⟩:∃ s,encF m=s:=⟨_,rfl⟩
 rw [hs] at hsz SN ST LW ⊢
 have HZ:=Lib.hid hsz
 clear hs nm hB hsz
 obtain ⟨p,hp⟩:∃ p,w.heap.size=p:=⟨_,rfl⟩
 obtain ⟨W0,hW0⟩:∃ W,w.alloc (.cells #[.int .i64 0,.int .i64 0,.int .i64 0,.string ⟨#[]⟩,.string ⟨#[]⟩,.int .i64 0,.int .i64 0,.string ⟨#[]⟩] 96)=W:=⟨_,rfl⟩
 have K0:=Lib.hid (show Kept (fun _=>False) w W0 by rw [← hW0];exact (Kept.refl _ _).alloc _)
 have S0:=Lib.hid (show SpanAt W0 p (parN m 0) by rw [← hW0,← hp];exact zeroSpan w m)
 have F0:=Lib.hid (show ∀ j,W0.frozen? ⟨p,j,none⟩=false from fun j=>by rw [← hW0,← hp];simp [go_sem])
 have NU:=Lib.hid (fun (W:World)=>numbers_any p W)
 have TU:=Lib.hid (fun (W:World)=>texts_any p W)
 have X:=Lib.hid (ixJ p)
 have X2:=Lib.hid (ixT p)
 obtain ⟨nv,hnv⟩:∃ nv,numsV p=nv:=⟨_,rfl⟩
 obtain ⟨tv,htv⟩:∃ tv,textsV p=tv:=⟨_,rfl⟩
 rw [hnv] at NU X
 rw [htv] at TU X2
 have HP:=Lib.hid hp
 clear hnv htv
 go_enter Tryz.func257,Tryz.ntmps257
 go_wp2_with (first
  | (go_at_call 101;refine (NU.out _).mono ?_;rintro e w1 ⟨rfl,k1⟩))
 have K1:=Lib.hid (K0.out.trans k1 (T:=fun _=>False) (fun _ _ f=>f) (fun _ _ f=>f))
 have S1:=Lib.hid (S0.out.keptF k1)
 have F1:=Lib.hid (show ∀ j,w1.frozen? ⟨p,j,none⟩=false from fun j=>k1.frozen (F0.out j) (show p<W0.heap.size from World.block_lt_of_cell? _ _ (S0.out.num 0)) (fun f=>f))
 have PL:=Lib.hid (show p<w1.heap.size from World.block_lt_of_cell? _ _ (S1.out.num 0))
 clear k1 hp hW0
 go_loopg [1,12] 5 (fun g t1 t wr=>∃ i:Nat,i+g=5∧t = .int .i64 i∧t1 = .int .i64 ((accN m i).length:Nat)∧SpanAt wr p (parN m i)∧(∀ j,wr.frozen? ⟨p,j,none⟩=false)∧Kept (fun b=>b=p) w1 wr)
 case atStart=>exact ⟨0,by omega,rfl,rfl,S1.out,F1.out,Kept.refl _ _⟩
 case round=>
  obtain ⟨i,hi,rfl,rfl,hS,hF,hK⟩:=hrel
  have HI:=Lib.hid hi
  have HS:=Lib.hid hS
  have HF:=Lib.hid hF
  have HK:=Lib.hid hK
  have PW:=Lib.hid (show p<wr.heap.size from World.block_lt_of_cell? _ _ (hS.num 0))
  clear hi hS hF hK
  by_cases h5:i<5
  ·have i1 : (i : Int) < 5 := by omega
   have x0:=X.out i h5
   have gp:=Lib.hid (fun W=>get_put (SN.out i h5) (NF.out i).1 (NF.out i).2 (by have:=HZ.out;omega) W)
   obtain ⟨l,hl⟩:∃ l,leastJ i=l:=⟨_,rfl⟩
   obtain ⟨u,hu⟩:∃ u,mostJ i=u:=⟨_,rfl⟩
   obtain ⟨o,ho⟩:∃ o,offJ i=o:=⟨_,rfl⟩
   rw [hl,hu,ho] at x0
   have fz:=HF.out o
   have qq:=HS.out.num i
   rw [ho] at qq
   obtain ⟨q,hq⟩:∃ q,wr.heap.size=q:=⟨_,rfl⟩
   obtain ⟨W3,hW3⟩:∃ W,wr.alloc (.cells #[.pointer (some ⟨p,o,none⟩),.int .i64 l,.int .i64 u] 186)=W:=⟨_,rfl⟩
   have k3:Kept (fun _=>False) wr W3:=by rw [← hW3];exact (Kept.refl _ _).alloc _
   have y0:W3.cell? ⟨q,0,none⟩=some (.pointer (some ⟨p,o,none⟩)):=by rw [← hW3,← hq];simp [go_sem]
   have K3:=Lib.hid k3
   have HO:=Lib.hid ho
   have QQ:=Lib.hid (k3.cell qq (fun f=>f))
   have FZ:=Lib.hid (k3.frozen fz PW.out (fun f=>f))
   clear hl hu ho fz qq k3
   go_wp2_with fail
   clear x0
   go_region_with (first
    | (go_at_call 279;refine (gp.out _).mono ?_;rintro e w4 ⟨rfl,kk⟩;(have z0:=kk.cell y0 (fun f=>f));(have z1:=kk.cell QQ.out (fun f=>f));(have zf:=kk.frozen FZ.out (World.block_lt_of_cell? _ _ QQ.out) (fun f=>f));(have K4:=Lib.hid ((Kept.refl (fun _=>False) W3).drew.trans kk (T:=fun _=>False) (fun _ _ f=>f) (fun _ _ f=>f)));clear kk))
   all_goals go_wp2
   all_goals
    go_roundg (gk - 1)
    case measure=>have:=HI.out;omega
    case rel=>
     refine ⟨i+1,by have:=HI.out;omega,by simp,by rw [LN.out];simp,?_,fun j=>?_,?_⟩
     ·have := parN_step h5 ((HS.out.keptF K3.out).keptF K4.out)
      rw [HO.out] at this
      exact this
     ·rw [frozen_setCell]
      exact K4.out.frozen (K3.out.frozen (HF.out j) PW.out (fun f=>f)) (Nat.lt_of_lt_of_le PW.out K3.out.size) (fun f=>f)
     ·exact (HK.out.trans (K3.out.trans K4.out (T:=fun b=>b=p) (fun _ _ f=>f.elim) (fun _ _ f=>f.elim)) (fun _ _ f=>f) (fun _ _ f=>f)).setAt (fun _=>rfl)
  ·have h5' : i = 5 := by have := HI.out; omega
   subst h5'
   have S2:=Lib.hid (parN_whole m ▸ HS.out:SpanAt wr p (parT m 0))
   go_wp2_with (first
    | (go_at_call 248;refine (TU.out _).mono ?_;rintro e w2 ⟨rfl,k2⟩))
   have K2:=Lib.hid (HK.out.trans k2 (T:=fun b=>b=p) (fun _ _ f=>f) (fun _ _ f=>f.elim))
   have S3:=Lib.hid (S2.out.keptF k2)
   have F3:=Lib.hid (show ∀ j,w2.frozen? ⟨p,j,none⟩=false from fun j=>k2.frozen (HF.out j) PW.out (fun f=>f))
   clear k2 HS HF HK S2 HI h5
   go_loopg [1,30] 3 (fun g t1 t wr=>∃ i:Nat,i+g=3∧t = .int .i64 i∧t1 = .int .i64 ((accT m i).length:Nat)∧SpanAt wr p (parT m i)∧(∀ j,wr.frozen? ⟨p,j,none⟩=false)∧Kept (fun b=>b=p) w1 wr)
   case atStart=>exact ⟨0,by omega,rfl,rfl,S3.out,F3.out,K2.out⟩
   case round=>
    obtain ⟨i,hi,rfl,rfl,hS,hF,hK⟩:=hrel
    have HI:=Lib.hid hi
    have HS:=Lib.hid hS
    have HF:=Lib.hid hF
    have HK:=Lib.hid hK
    have PW:=Lib.hid (show p<wr.heap.size from World.block_lt_of_cell? _ _ (hS.num 0))
    clear hi hS hF hK
    by_cases h3:i<3
    ·have i1 : (i : Int) < 3 := by omega
     have x0:=X2.out i h3
     have gp:=Lib.hid (fun W=>gettext_put (ST.out i h3) (by have:=HZ.out;omega) W)
     obtain ⟨o,ho⟩:∃ o,offT i=o:=⟨_,rfl⟩
     rw [ho] at x0
     have FZ:=Lib.hid (HF.out o)
     have qq:=HS.out.text i
     rw [ho] at qq
     have QQ:=Lib.hid qq
     have HO:=Lib.hid ho
     clear ho qq
     go_wp2_with (first
      | (go_at_call 280;refine (gp.out _).mono ?_;rintro e w4 ⟨rfl,kk⟩;(have z1:=kk.cell QQ.out (fun f=>f));(have zf:=kk.frozen FZ.out (World.block_lt_of_cell? _ _ QQ.out) (fun f=>f));(have K4:=Lib.hid kk);clear kk x0))
     go_roundg (gk - 1)
     case measure=>have:=HI.out;omega
     case rel=>
      refine ⟨i+1,by have:=HI.out;omega,by simp,by rw [LT.out];simp,?_,fun j=>?_,?_⟩
      ·have := parT_step h3 (HS.out.keptF K4.out)
       rw [HO.out] at this
       exact this
      ·rw [frozen_setCell]
       exact K4.out.frozen (HF.out j) PW.out (fun f=>f)
      ·exact (HK.out.trans K4.out (T:=fun b=>b=p) (fun _ _ f=>f) (fun _ _ f=>f.elim)).setAt (fun _=>rfl)
    ·have h3' : i = 3 := by have := HI.out; omega
     subst h3'
     rw [LW.out]
     obtain ⟨h0,h1,h2,h3,h4,h5,h6,h7⟩:=(parT_whole m ▸ HS.out:SpanAt wr p m).all8
     have f0:=HF.out 0
     have f1:=HF.out 1
     have f2:=HF.out 2
     have f3:=HF.out 3
     have f4:=HF.out 4
     have f5:=HF.out 5
     have f6:=HF.out 6
     have f7:=HF.out 7
     go_wp2_with fail
     have hp:p<w.heap.size→False:=fun h=>by have:=HP.out;omega
     have KK:=K1.out.trans HK.out (T:=fun _=>False) (fun _ _ f=>f) (fun b hb e=>by subst e;exact hp hb)
     refine bodyPost_ret_by (v:=_) ?_ rfl ⟨rfl,(Kept.setAt hp (Kept.setAt hp (Kept.setAt hp (Kept.setAt hp (Kept.setAt hp (Kept.setAt hp (Kept.setAt hp (Kept.setAt hp KK))))))))⟩
     unfold aggS
     rw [results_cell_tmp2 rfl]
     go_simp
end
/- spans.Decode of a span's bytes, and of nothing. -/
section
open Go.RowKit Go.Lib Go.Eng
set_option maxRecDepth 100000
def zeroS:Spn:=⟨0,0,0,⟨#[]⟩,⟨#[]⟩,0,0,⟨#[]⟩⟩
set_option maxHeartbeats 8000000 in
theorem dec_put (m:Spn)(hB:chkB m=true)(hsz:(encF m).size≤1000)(w:World) :
  Calls Tryz.prog 174 #[.string (encF m)] w fun e w'=>e = .returned (.tuple #[aggS m,.int .i64 0])∧Kept (fun _=>False) w w':=by
 have nz:m.se.size≤1000∧m.ho.size≤1000∧m.no.size≤1000:=by
  have h:=hB
  unfold chkB at h
  simp only [Bool.and_eq_true,decide_eq_true_eq] at h
  obtain ⟨⟨⟨_,h5⟩,h6⟩,h7⟩:=h
  have nm:∀ {s:ByteArray},nameB s=true→s.size≤12:=fun {s} h=>by
   unfold nameB at h
   simp only [Bool.and_eq_true,decide_eq_true_eq] at h
   exact h.1.2
  have:=nm h5
  have:=nm h6
  omega
 have TK:=Lib.hid (fun W=>take_any m hB hsz W)
 have CK:=Lib.hid (fun W=>check_all m (by omega) (by omega) (by omega) W)
 rw [hB] at CK
 obtain ⟨s,hs⟩:∃ s,encF m=s:=⟨_,rfl⟩
 rw [hs] at hsz TK ⊢
 obtain ⟨p,hp⟩:∃ p,w.heap.size=p:=⟨_,rfl⟩
 obtain ⟨W0,hW0⟩:∃ W,w.alloc (.cells #[.int .i64 0,.int .i64 0,.int .i64 0,.string ⟨#[]⟩,.string ⟨#[]⟩,.int .i64 0,.int .i64 0,.string ⟨#[]⟩] 96)=W:=⟨_,rfl⟩
 have K0:=Lib.hid (show Kept (fun _=>False) w W0 by rw [← hW0];exact (Kept.refl _ _).alloc _)
 have S0:=Lib.hid (show SpanAt W0 p zeroS by rw [← hW0,← hp];exact SpanAt.new (m:=zeroS))
 have F0:=Lib.hid (show ∀ j,W0.frozen? ⟨p,j,none⟩=false from fun j=>by rw [← hW0,← hp];simp [go_sem])
 have PL:=Lib.hid (show p<W0.heap.size by rw [← hW0,← hp];simp)
 have HP:=Lib.hid hp
 clear hs hB hsz nz
 unfold aggS at TK CK ⊢
 go_enter Tryz.func174,Tryz.ntmps174
 go_wp2_with (first
  | (go_at_call 257;refine (TK.out _).mono ?_;rintro e w1 ⟨rfl,k1⟩;(have K1:=Lib.hid k1);clear k1))
 obtain ⟨q,hq⟩:∃ q,w1.heap.size=q:=⟨_,rfl⟩
 obtain ⟨W2,hW2⟩:∃ W,w1.alloc (.cells #[.int .i64 m.tr,.int .i64 m.id,.int .i64 m.pa,.string m.se,.string m.ho,.int .i64 m.st,.int .i64 m.du,.string m.no] 96)=W:=⟨_,rfl⟩
 have k2:Kept (fun _=>False) w1 W2:=by rw [← hW2];exact (Kept.refl _ _).alloc _
 have s2:SpanAt W2 q m:=by rw [← hW2,← hq];exact SpanAt.new
 rw [hq,hW2]
 refine (CK.out _).mono ?_
 rintro e w3 ⟨rfl,k3⟩
 have k03:=(K1.out.trans k2 (T:=fun _=>False) (fun _ _ f=>f) (fun _ _ f=>f)).trans k3 (T:=fun _=>False) (fun _ _ f=>f) (fun _ _ f=>f)
 obtain ⟨h0,h1,h2,h3,h4,h5,h6,h7⟩:=(s2.keptF k3).all8
 have f0:=k03.frozen (F0.out 0) PL.out (fun f=>f)
 have f1:=k03.frozen (F0.out 1) PL.out (fun f=>f)
 have f2:=k03.frozen (F0.out 2) PL.out (fun f=>f)
 have f3:=k03.frozen (F0.out 3) PL.out (fun f=>f)
 have f4:=k03.frozen (F0.out 4) PL.out (fun f=>f)
 have f5:=k03.frozen (F0.out 5) PL.out (fun f=>f)
 have f6:=k03.frozen (F0.out 6) PL.out (fun f=>f)
 have f7:=k03.frozen (F0.out 7) PL.out (fun f=>f)
 obtain ⟨g0,g1,g2,g3,g4,g5,g6,g7⟩:=(S0.out.keptF k03).all8
 have KK:=Lib.hid (K0.out.trans k03 (T:=fun _=>False) (fun _ _ f=>f) (fun _ _ f=>f))
 unfold zeroS at g0 g1 g2 g3 g4 g5 g6 g7
 unfold errN
 clear k2 s2 k3 k03 hW2
 go_wp2_with fail
 have hp':p<w.heap.size→False:=fun h=>by have:=HP.out;omega
 refine bodyPost_ret_by (v:=_) ?_ rfl ⟨rfl,(Kept.setAt hp' (Kept.setAt hp' (Kept.setAt hp' (Kept.setAt hp' (Kept.setAt hp' (Kept.setAt hp' (Kept.setAt hp' (Kept.setAt hp' KK.out))))))))⟩
 rw [results_cell_tmp rfl]
 go_simp
end
/- spans.Take of nothing. -/
section
open Go.RowKit Go.Lib Go.Eng
set_option maxRecDepth 100000
set_option maxHeartbeats 8000000 in
theorem take_none (w:World) :
  Calls Tryz.prog 257 #[.string ⟨#[]⟩,.int .i64 0] w fun e w'=>e = .returned (.tuple #[aggS zeroS,.int .i64 0,.bool false])∧Kept (fun _=>False) w w':=by
 obtain ⟨p,hp⟩:∃ p,w.heap.size=p:=⟨_,rfl⟩
 obtain ⟨W0,hW0⟩:∃ W,w.alloc (.cells #[.int .i64 0,.int .i64 0,.int .i64 0,.string ⟨#[]⟩,.string ⟨#[]⟩,.int .i64 0,.int .i64 0,.string ⟨#[]⟩] 96)=W:=⟨_,rfl⟩
 have K0:=Lib.hid (show Kept (fun _=>False) w W0 by rw [← hW0];exact (Kept.refl _ _).alloc _)
 have S0:=Lib.hid (show SpanAt W0 p zeroS by rw [← hW0,← hp];exact SpanAt.new (m:=zeroS))
 have F0:=Lib.hid (show ∀ j,W0.frozen? ⟨p,j,none⟩=false from fun j=>by rw [← hW0,← hp];simp [go_sem])
 have PL:=Lib.hid (show p<W0.heap.size by rw [← hW0,← hp];simp)
 have NU:=Lib.hid (fun (W:World)=>numbers_any p W)
 have X:=Lib.hid (ixJ p 0 (by omega))
 obtain ⟨nv,hnv⟩:∃ nv,numsV p=nv:=⟨_,rfl⟩
 rw [hnv] at NU X
 have HP:=Lib.hid hp
 have GN:=Lib.hid (fun W=>get_none (a:=0) W)
 clear hnv
 go_enter Tryz.func257,Tryz.ntmps257
 go_wp2_with (first
  | (go_at_call 101;refine (NU.out _).mono ?_;rintro e w1 ⟨rfl,k1⟩;(have K1:=Lib.hid k1);clear k1))
 refine wp_loop_rounds 1 ?_
 rw [rounds_succ]
 have x0:=X.out
 obtain ⟨q,hq⟩:∃ q,w1.heap.size=q:=⟨_,rfl⟩
 obtain ⟨W3,hW3⟩:∃ W,w1.alloc (.cells #[.pointer (some ⟨p,0,none⟩),.int .i64 1,.int .i64 2147483647] 186)=W:=⟨_,rfl⟩
 have k3:Kept (fun _=>False) w1 W3:=by rw [← hW3];exact (Kept.refl _ _).alloc _
 have y0:W3.cell? ⟨q,0,none⟩=some (.pointer (some ⟨p,0,none⟩)):=by rw [← hW3,← hq];simp [go_sem]
 have K3:=Lib.hid (K1.out.trans k3 (T:=fun _=>False) (fun _ _ f=>f) (fun _ _ f=>f))
 simp only [offJ,leastJ,mostJ,Int.natCast_zero] at x0
 clear k3
 go_wp2_with fail
 clear x0
 go_region_with (first
  | (go_at_call 279;refine (GN.out _).mono ?_;rintro e w4 ⟨rfl,kk⟩;(have z0:=kk.cell y0 (fun f=>f));(have K4:=Lib.hid (K3.out.trans ((Kept.refl (fun _=>False) W3).drew.trans kk (T:=fun _=>False) (fun _ _ f=>f) (fun _ _ f=>f)) (T:=fun _=>False) (fun _ _ f=>f) (fun _ _ f=>f)));obtain ⟨h0,h1,h2,h3,h4,h5,h6,h7⟩:=(S0.out.keptF K4.out).all8;(have f0:=K4.out.frozen (F0.out 0) PL.out (fun f=>f));(have f1:=K4.out.frozen (F0.out 1) PL.out (fun f=>f));(have f2:=K4.out.frozen (F0.out 2) PL.out (fun f=>f));(have f3:=K4.out.frozen (F0.out 3) PL.out (fun f=>f));(have f4:=K4.out.frozen (F0.out 4) PL.out (fun f=>f));(have f5:=K4.out.frozen (F0.out 5) PL.out (fun f=>f));(have f6:=K4.out.frozen (F0.out 6) PL.out (fun f=>f));(have f7:=K4.out.frozen (F0.out 7) PL.out (fun f=>f));unfold zeroS at h0 h1 h2 h3 h4 h5 h6 h7;clear kk))
 all_goals go_wp2
 all_goals
  have hp':p<w.heap.size→False:=fun h=>by have:=HP.out;omega
  have KK:=K0.out.trans K4.out (T:=fun _=>False) (fun _ _ f=>f) (fun _ _ f=>f)
  refine bodyPost_ret_by (v:=_) ?_ rfl ⟨rfl,?_⟩
  ·unfold aggS zeroS
   rw [results_cell_tmp2 rfl]
   go_simp
  ·exact (Kept.setAt hp' (Kept.setAt hp' (Kept.setAt hp' (Kept.setAt hp' (Kept.setAt hp' (Kept.setAt hp' (Kept.setAt hp' (Kept.setAt hp' (Kept.setAt hp' KK)))))))))
end
/- spans.Decode of nothing. -/
section
open Go.RowKit Go.Lib Go.Eng
set_option maxRecDepth 100000
set_option maxHeartbeats 8000000 in
theorem dec_none (w:World):Calls Tryz.prog 174 #[.string ⟨#[]⟩] w fun e w'=>e = .returned (.tuple #[aggS zeroS,.int .i64 30])∧Kept (fun _=>False) w w':=by
 have TK:=Lib.hid (fun W=>take_none W)
 obtain ⟨p,hp⟩:∃ p,w.heap.size=p:=⟨_,rfl⟩
 obtain ⟨W0,hW0⟩:∃ W,w.alloc (.cells #[.int .i64 0,.int .i64 0,.int .i64 0,.string ⟨#[]⟩,.string ⟨#[]⟩,.int .i64 0,.int .i64 0,.string ⟨#[]⟩] 96)=W:=⟨_,rfl⟩
 have K0:=Lib.hid (show Kept (fun _=>False) w W0 by rw [← hW0];exact (Kept.refl _ _).alloc _)
 have S0:=Lib.hid (show SpanAt W0 p zeroS by rw [← hW0,← hp];exact SpanAt.new (m:=zeroS))
 have F0:=Lib.hid (show ∀ j,W0.frozen? ⟨p,j,none⟩=false from fun j=>by rw [← hW0,← hp];simp [go_sem])
 have PL:=Lib.hid (show p<W0.heap.size by rw [← hW0,← hp];simp)
 have HP:=Lib.hid hp
 unfold aggS zeroS at TK ⊢
 simp only at TK ⊢
 go_enter Tryz.func174,Tryz.ntmps174
 go_wp2_with (first
  | (go_at_call 257;refine (TK.out _).mono ?_;rintro e w1 ⟨rfl,k1⟩;(have K4:=Lib.hid k1);obtain ⟨h0,h1,h2,h3,h4,h5,h6,h7⟩:=(S0.out.keptF k1).all8;(have f0:=k1.frozen (F0.out 0) PL.out (fun f=>f));(have f1:=k1.frozen (F0.out 1) PL.out (fun f=>f));(have f2:=k1.frozen (F0.out 2) PL.out (fun f=>f));(have f3:=k1.frozen (F0.out 3) PL.out (fun f=>f));(have f4:=k1.frozen (F0.out 4) PL.out (fun f=>f));(have f5:=k1.frozen (F0.out 5) PL.out (fun f=>f));(have f6:=k1.frozen (F0.out 6) PL.out (fun f=>f));(have f7:=k1.frozen (F0.out 7) PL.out (fun f=>f));(have pl:p<w1.heap.size:=Nat.lt_of_lt_of_le PL.out k1.size);unfold zeroS at h0 h1 h2 h3 h4 h5 h6 h7;clear k1))
 have hp':p<w.heap.size→False:=fun h=>by have:=HP.out;omega
 have KK:=K0.out.trans K4.out (T:=fun _=>False) (fun _ _ f=>f) (fun _ _ f=>f)
 refine bodyPost_ret_by (v:=_) ?_ rfl ⟨rfl,?_⟩
 ·rw [results_cell_tmp rfl]
  go_simp
 ·exact (Kept.setAt hp' (Kept.setAt hp' (Kept.setAt hp' (Kept.setAt hp' (Kept.setAt hp' (Kept.setAt hp' (Kept.setAt hp' (Kept.setAt hp' (KK))))))))).alloc _
end
/- rows.Span of a span's cell, and of an index cell. -/
section
open Go.RowKit Go.Lib Go.Eng
set_option maxRecDepth 100000
theorem encF_size (m:Spn)(h:chkB m=true):(encF m).size≤1000:=by
 have hz:=chk_size h
 have ht:∀ j,(textJ m j).size≤24:=fun j=>by
  match j with
  | 0=>show m.se.size≤24;omega
  | 1=>show m.ho.size≤24;omega
  | j+2=>show m.no.size≤24;omega
 have:=accT_length m ht 3
 rw [← data_length,encF_list]
 omega
/-- What stays of a block's head: cells and locks, one by one. -/
structure Eight (w:World) (p:Nat):Prop where
 lt:p<w.heap.size
 at_:SpanAt w p zeroS
 fz:∀ j,w.frozen? ⟨p,j,none⟩=false
theorem Eight.new (w:World):Eight (w.alloc (.cells #[.int .i64 0,.int .i64 0,.int .i64 0,.string ⟨#[]⟩,.string ⟨#[]⟩,.int .i64 0,.int .i64 0,.string ⟨#[]⟩] 96)) w.heap.size:=
 ⟨by simp,SpanAt.new (m:=zeroS),fun j=>by simp [go_sem]⟩
theorem Eight.keptF {w w':World}{p:Nat}(h:Eight w p)(K:Kept (fun _=>False) w w'):Eight w' p:=
 ⟨Nat.lt_of_lt_of_le h.lt K.size,h.at_.keptF K,fun j=>K.frozen (h.fz j) h.lt (fun f=>f)⟩
theorem Eight.all {w:World}{p:Nat}(h:Eight w p):(w.cell? ⟨p,0,none⟩=some (.int .i64 0)∧w.cell? ⟨p,1,none⟩=some (.int .i64 0)∧w.cell? ⟨p,2,none⟩=some (.int .i64 0)∧w.cell? ⟨p,3,none⟩=some (.string ⟨#[]⟩)∧w.cell? ⟨p,4,none⟩=some (.string ⟨#[]⟩)∧w.cell? ⟨p,5,none⟩=some (.int .i64 0)∧w.cell? ⟨p,6,none⟩=some (.int .i64 0)∧w.cell? ⟨p,7,none⟩=some (.string ⟨#[]⟩))∧(w.frozen? ⟨p,0,none⟩=false∧w.frozen? ⟨p,1,none⟩=false∧w.frozen? ⟨p,2,none⟩=false∧w.frozen? ⟨p,3,none⟩=false∧w.frozen? ⟨p,4,none⟩=false∧w.frozen? ⟨p,5,none⟩=false∧w.frozen? ⟨p,6,none⟩=false∧w.frozen? ⟨p,7,none⟩=false):=
 ⟨h.at_.all8,h.fz 0,h.fz 1,h.fz 2,h.fz 3,h.fz 4,h.fz 5,h.fz 6,h.fz 7⟩
set_option maxHeartbeats 8000000 in
theorem span_put (m:Spn)(s:Int)(hB:chkB m=true)(w:World) :
  Calls Tryz.prog 103 #[.agg #[.string (keyS m),.int .i64 s,.string (encF m)]] w fun e w'=>e = .returned (.tuple #[aggS m,.bool true])∧Kept (fun _=>False) w w':=by
 have ho:=chk_of hB
 have nm:=chk_num hB
 have DE:=Lib.hid (fun W=>dec_put m hB (encF_size m hB) W)
 have OF:=Lib.hid (fun W=>of_all m.tr m.id W (by omega) (by omega))
 rw [ho] at OF
 unfold keyR errN at OF
 rw [ho] at OF
 obtain ⟨k,hk⟩:∃ k,keyS m=k:=⟨_,rfl⟩
 unfold keyS at hk
 unfold keyS
 simp only at OF
 rw [hk] at OF ⊢
 obtain ⟨v,hv⟩:∃ v,encF m=v:=⟨_,rfl⟩
 rw [hv] at DE ⊢
 obtain ⟨c,hc⟩:∃ c,w.heap.size=c:=⟨_,rfl⟩
 obtain ⟨W0,hW0⟩:∃ W,w.alloc (.cells #[.string k,.int .i64 s,.string v] 132)=W:=⟨_,rfl⟩
 have K0:=Lib.hid (show Kept (fun _=>False) w W0 by rw [← hW0];exact (Kept.refl _ _).alloc _)
 have y0:W0.cell? ⟨c,0,none⟩=some (.string k):=by rw [← hW0,← hc];simp [go_sem]
 have y2:W0.cell? ⟨c,2,none⟩=some (.string v):=by rw [← hW0,← hc];simp [go_sem]
 obtain ⟨p,hp⟩:∃ p,W0.heap.size=p:=⟨_,rfl⟩
 obtain ⟨W1,hW1⟩:∃ W,W0.alloc (.cells #[.int .i64 0,.int .i64 0,.int .i64 0,.string ⟨#[]⟩,.string ⟨#[]⟩,.int .i64 0,.int .i64 0,.string ⟨#[]⟩] 96)=W:=⟨_,rfl⟩
 have k1:Kept (fun _=>False) W0 W1:=by rw [← hW1];exact (Kept.refl _ _).alloc _
 have E1:=Lib.hid (show Eight W1 p by rw [← hW1,← hp];exact Eight.new _)
 have z0:=k1.cell y0 (fun f=>f)
 have z2:=k1.cell y2 (fun f=>f)
 have K1:=Lib.hid (K0.out.trans k1 (T:=fun _=>False) (fun _ _ f=>f) (fun _ _ f=>f))
 have HP:=Lib.hid (show w.heap.size≤p from by have:=K0.out.size;omega)
 have Z0:=Lib.hid z0
 clear k1 y0 y2 hk hv ho nm hB z0
 unfold aggS at DE ⊢
 go_enter Tryz.func103,Tryz.ntmps103
 go_wp2_with (first
  | (go_at_call 174;refine (DE.out _).mono ?_;rintro e w2 ⟨rfl,k2⟩;(have K2:=Lib.hid k2);clear k2 z2))
 obtain ⟨q,hq⟩:∃ q,w2.heap.size=q:=⟨_,rfl⟩
 obtain ⟨W3,hW3⟩:∃ W,w2.alloc (.cells #[.int .i64 m.tr,.int .i64 m.id,.int .i64 m.pa,.string m.se,.string m.ho,.int .i64 m.st,.int .i64 m.du,.string m.no] 96)=W:=⟨_,rfl⟩
 have k3:Kept (fun _=>False) w2 W3:=by rw [← hW3];exact (Kept.refl _ _).alloc _
 have s3:SpanAt W3 q m:=by rw [← hW3,← hq];exact SpanAt.new
 rw [hq,hW3]
 refine (OF.out _).mono ?_
 rintro e w4 ⟨rfl,k4⟩
 have k14:=(K2.out.trans k3 (T:=fun _=>False) (fun _ _ f=>f) (fun _ _ f=>f)).trans k4 (T:=fun _=>False) (fun _ _ f=>f) (fun _ _ f=>f)
 obtain ⟨⟨g0,g1,g2,g3,g4,g5,g6,g7⟩,f0,f1,f2,f3,f4,f5,f6,f7⟩:=(E1.out.keptF k14).all
 obtain ⟨h0,h1,h2,h3,h4,h5,h6,h7⟩:=(s3.keptF k4).all8
 have z0:=k14.cell Z0.out (fun f=>f)
 have KK:=Lib.hid (K1.out.trans k14 (T:=fun _=>False) (fun _ _ f=>f) (fun _ _ f=>f))
 clear k3 s3 k4 k14 hW3 hq
 go_wp2_with fail
 have hp':p<w.heap.size→False:=fun h=>by have:=HP.out;omega
 refine bodyPost_ret_by (v:=_) ?_ rfl ⟨rfl,(Kept.setAt hp' (Kept.setAt hp' (Kept.setAt hp' (Kept.setAt hp' (Kept.setAt hp' (Kept.setAt hp' (Kept.setAt hp' (Kept.setAt hp' KK.out))))))))⟩
 rw [results_cell_tmp rfl]
 go_simp
set_option maxHeartbeats 8000000 in
theorem span_none (k:ByteArray)(s:Int)(w:World) :
  Calls Tryz.prog 103 #[.agg #[.string k,.int .i64 s,.string ⟨#[]⟩]] w fun e w'=>e = .returned (.tuple #[aggS zeroS,.bool false])∧Kept (fun _=>False) w w':=by
 have DE:=Lib.hid (fun W=>dec_none W)
 obtain ⟨c,hc⟩:∃ c,w.heap.size=c:=⟨_,rfl⟩
 obtain ⟨W0,hW0⟩:∃ W,w.alloc (.cells #[.string k,.int .i64 s,.string ⟨#[]⟩] 132)=W:=⟨_,rfl⟩
 have K0:=Lib.hid (show Kept (fun _=>False) w W0 by rw [← hW0];exact (Kept.refl _ _).alloc _)
 have y2:W0.cell? ⟨c,2,none⟩=some (.string ⟨#[]⟩):=by rw [← hW0,← hc];simp [go_sem]
 obtain ⟨p,hp⟩:∃ p,W0.heap.size=p:=⟨_,rfl⟩
 obtain ⟨W1,hW1⟩:∃ W,W0.alloc (.cells #[.int .i64 0,.int .i64 0,.int .i64 0,.string ⟨#[]⟩,.string ⟨#[]⟩,.int .i64 0,.int .i64 0,.string ⟨#[]⟩] 96)=W:=⟨_,rfl⟩
 have k1:Kept (fun _=>False) W0 W1:=by rw [← hW1];exact (Kept.refl _ _).alloc _
 have E1:=Lib.hid (show Eight W1 p by rw [← hW1,← hp];exact Eight.new _)
 have z2:=k1.cell y2 (fun f=>f)
 have K1:=Lib.hid (K0.out.trans k1 (T:=fun _=>False) (fun _ _ f=>f) (fun _ _ f=>f))
 have HP:=Lib.hid (show w.heap.size≤p from by have:=K0.out.size;omega)
 clear k1 y2
 unfold aggS zeroS at DE ⊢
 simp only at DE ⊢
 go_enter Tryz.func103,Tryz.ntmps103
 go_wp2_with (first
  | (go_at_call 174;refine (DE.out _).mono ?_;rintro e w2 ⟨rfl,k2⟩;(have K2:=Lib.hid k2);obtain ⟨⟨g0,g1,g2,g3,g4,g5,g6,g7⟩,f0,f1,f2,f3,f4,f5,f6,f7⟩:=(E1.out.keptF k2).all;(have pl:=(E1.out.keptF k2).lt);clear k2 z2))
 have hp':p<w.heap.size→False:=fun h=>by have:=HP.out;omega
 have KK:=K1.out.trans K2.out (T:=fun _=>False) (fun _ _ f=>f) (fun _ _ f=>f)
 refine bodyPost_ret_by (v:=_) ?_ rfl ⟨rfl,(Kept.setAt hp' (Kept.setAt hp' (Kept.setAt hp' (Kept.setAt hp' (Kept.setAt hp' (Kept.setAt hp' (Kept.setAt hp' (Kept.setAt hp' (KK))))))))).alloc _⟩
 rw [results_cell_tmp rfl]
 go_simp
set_option maxHeartbeats 8000000 in
theorem dropped_put (m:Spn)(s now:Int)(hB:chkB m=true)(hnow:now≤9223372036854775807)(w:World) :
  Calls Tryz.prog 79 #[.agg #[.string (keyS m),.int .i64 s,.string (encF m)],.int .i64 now] w fun e w'=>e = .returned (.bool (lateB m.st now))∧Kept (fun _=>False) w w':=by
 have nm:=chk_num hB
 have SP:=Lib.hid (fun W=>span_put m s hB W)
 have EX:=Lib.hid (fun W=>expired_all m now (by omega) hnow (by omega) W)
 obtain ⟨k,hk⟩:∃ k,keyS m=k:=⟨_,rfl⟩
 obtain ⟨v,hv⟩:∃ v,encF m=v:=⟨_,rfl⟩
 rw [hk,hv] at SP ⊢
 obtain ⟨c,hc⟩:∃ c,w.heap.size=c:=⟨_,rfl⟩
 obtain ⟨W0,hW0⟩:∃ W,w.alloc (.cells #[.string k,.int .i64 s,.string v] 132)=W:=⟨_,rfl⟩
 have K0:=Lib.hid (show Kept (fun _=>False) w W0 by rw [← hW0];exact (Kept.refl _ _).alloc _)
 have y0:W0.cell? ⟨c,0,none⟩=some (.string k):=by rw [← hW0,← hc];simp [go_sem]
 have y1:W0.cell? ⟨c,1,none⟩=some (.int .i64 s):=by rw [← hW0,← hc];simp [go_sem]
 have y2:W0.cell? ⟨c,2,none⟩=some (.string v):=by rw [← hW0,← hc];simp [go_sem]
 unfold aggS at SP EX
 clear hk hv nm hB
 go_enter Tryz.func79,Tryz.ntmps79
 go_wp2_with (first
  | (go_at_call 103;refine (SP.out _).mono ?_;rintro e w2 ⟨rfl,k2⟩;(have K2:=Lib.hid (K0.out.trans k2 (T:=fun _=>False) (fun _ _ f=>f) (fun _ _ f=>f)));clear k2)
  | (go_at_call 40;refine (EX.out _).mono ?_;rintro e w3 ⟨rfl,k3⟩;(have K3:=Lib.hid k3);clear k3))
 go_ret
 exact ⟨rfl,(K2.out.alloc _).trans K3.out (T:=fun _=>False) (fun _ _ f=>f) (fun _ _ f=>f)⟩
end
/- rows.Live. -/
section
open Go.RowKit Go.Lib Go.Eng
set_option maxRecDepth 100000
/-- Which span a cell has. -/
def CellIs (c:Cel):Option Spn→Prop
 | some m=>chkB m=true∧c.k=keyS m∧c.v=encF m
 | none=>c.v=⟨#[]⟩
def liveM (now:Int)(M:List (Option Spn)):List Spn:=M.filterMap fun o=>o.filter fun m=>!lateB m.st now
def oneM (now:Int):Option Spn→List Spn
 | some m=>if lateB m.st now then [] else [m]
 | none=>[]
theorem liveM_snoc (now:Int)(M:List (Option Spn))(o:Option Spn):liveM now (M++[o])=liveM now M++oneM now o:=by
 unfold liveM
 rw [List.filterMap_append]
 congr 1
 cases o with
 | none=>rfl
 | some m=>
  cases h:lateB m.st now <;> simp [Option.filter,oneM,h]
theorem liveM_length (now:Int)(M:List (Option Spn)):(liveM now M).length≤M.length:=List.length_filterMap_le _ _
set_option maxHeartbeats 8000000 in
theorem live_any {w:World}{ao:Option Addr}{cap:Nat}{R:List Cel}{M:List (Option Spn)}(now:Int)(h:CelsR w ao R)(hM:∀ (i:Nat)(c:Cel),R[i]? = some c→∃ o,M[i]? = some o∧CellIs c o)(hlen:M.length=R.length)(hl:R.length≤1000)(hnow:now≤9223372036854775807) :
  Calls Tryz.prog 56 #[.slice ao R.length cap,.int .i64 now] w fun e w'=>(∃ v,e = .returned v∧w'.ownsRow w.heap.size 96 8 v (liveM now M).length (cellsS (liveM now M)))∧Kept (fun _=>False) w w':=by
 obtain ⟨i0,hi0,hz0,hz1,hz2⟩:=info_parts inf111
 obtain ⟨n,hn⟩:∃ n,R.length=n:=⟨_,rfl⟩
 have HN:=Lib.hid hn
 have RR:=Lib.hid h
 have HM:=Lib.hid hM
 have HLM:=Lib.hid hlen
 obtain ⟨B,hB⟩:∃ B,w.heap.size=B:=⟨_,rfl⟩
 have HB:=Lib.hid hB
 rw [hn] at hl ⊢
 rw [hB]
 clear h hn hM hlen hB
 have HL:=Lib.hid hl
 go_enter Tryz.func56,Tryz.ntmps56
 go_wp2_with fail
 go_loopg [5,12] n (fun gh t5 t12 wr=>∃ (i:Nat) (O:List Spn),i+gh=n∧t12 = .int .i64 i∧O=liveM now (M.take i)∧wr.ownsRow B 96 8 t5 O.length (cellsS O)∧Kept (fun _=>False) w wr)
 case atStart=>exact ⟨0,[],by omega,rfl,by simp [liveM],World.ownsRow_nil _ _ _ _,Kept.refl _ _⟩
 case round=>
  rename_i v5 _
  obtain ⟨i,O,hgh,rfl,hO,hown,hk⟩:=hrel
  have KW:=Lib.hid hk
  have OW:=Lib.hid hown
  have HO:=Lib.hid hO
  have GH:=Lib.hid hgh
  have OL:O.length≤1000:=by
   rw [hO]
   have:=liveM_length now (M.take i)
   rw [List.length_take] at this
   have:=HLM.out
   have:=HN.out
   omega
  have OLH:=Lib.hid OL
  clear hO hown
  by_cases hlt:i<n
  ·have hi : i < R.length := by have := HN.out; omega
   have hne:¬ R=[]:=fun e=>by rw [e] at hi;simp at hi
   obtain ⟨c,hc⟩:∃ c,R[i]? = some c:=⟨_,List.getElem?_eq_getElem hi⟩
   obtain ⟨g,og,rfl,hcl⟩:=RR.out.resolve_left hne
   obtain ⟨x0,x1,x2⟩:=(hcl i c hc).kept hk
   obtain ⟨o,ho,hco⟩:=HM.out i c hc
   have TK:=Lib.hid (show liveM now (M.take (i+1))=O++oneM now o from by
    rw [HO.out,← liveM_snoc,List.take_add_one,ho];rfl)
   have i1:(i:Int)<(n:Int):=by omega
   have i2:(0:Int)≤(i:Int):=by omega
   obtain ⟨ck,cs,cv⟩:=c
   simp only at x0 x1 x2
   clear hi hne hc hcl ho hk hgh
   cases o with
   | none=>
    unfold CellIs at hco
    simp only at hco
    subst hco
    go_wp2_with (first
     | (go_at_call 103;refine (span_none _ _ _).mono ?_;rintro e w2 ⟨rfl,k2⟩;unfold aggS zeroS;(have K2:=Lib.hid (KW.out.trans (((Kept.refl (fun _=>False) wr).alloc _).trans k2 (T:=fun _=>False) (fun _ _ f=>f) (fun _ _ f=>f)) (T:=fun _=>False) (fun _ _ f=>f) (fun _ _ f=>f)));(have O2:=Lib.hid (own_kept OW.out (((Kept.refl (fun _=>False) wr).alloc _).trans k2 (T:=fun _=>False) (fun _ _ f=>f) (fun _ _ f=>f)) (fun _ _ f=>f)));clear k2))
    go_roundg (n - i - 1)
    case measure=>have:=GH.out;omega
    case rel=>exact ⟨i+1,O,by have:=GH.out;omega,by go_num,by rw [TK.out];simp [oneM],own_kept O2.out ((Kept.refl (fun _=>False) _).alloc _) (fun _ _ f=>f),K2.out.alloc _⟩
   | some m=>
    obtain ⟨hB,hk,hv⟩:=hco
    simp only at hk hv
    subst hk
    subst hv
    have nm:=chk_num hB
    have SP:=Lib.hid (fun W=>span_put m cs hB W)
    have EX:=Lib.hid (fun W=>expired_all m now (by omega) hnow (by omega) W)
    obtain ⟨k,hk⟩:∃ k,keyS m=k:=⟨_,rfl⟩
    obtain ⟨v,hv⟩:∃ v,encF m=v:=⟨_,rfl⟩
    rw [hk] at x0 SP
    rw [hv] at x2 SP
    unfold aggS at SP EX
    obtain ⟨lb,hlb⟩:∃ lb,lateB m.st now=lb:=⟨_,rfl⟩
    rw [hlb] at EX
    have LB:=Lib.hid hlb
    clear hk hv nm hB hlb
    obtain ⟨W1,hW1⟩:∃ W,wr.alloc (.cells #[.string k,.int .i64 cs,.string v] 132)=W:=⟨_,rfl⟩
    have K1:=Lib.hid (show Kept (fun _=>False) wr W1 by rw [← hW1];exact (Kept.refl _ _).alloc _)
    obtain ⟨a,ha⟩:∃ a,wr.heap.size=a:=⟨_,rfl⟩
    have y0:W1.cell? ⟨a,0,none⟩=some (.string k):=by rw [← hW1,← ha];simp [go_sem]
    have y1:W1.cell? ⟨a,1,none⟩=some (.int .i64 cs):=by rw [← hW1,← ha];simp [go_sem]
    have y2:W1.cell? ⟨a,2,none⟩=some (.string v):=by rw [← hW1,← ha];simp [go_sem]
    cases lb with
    | true=>
     go_wp2_with (first
      | (go_at_call 103;refine (SP.out _).mono ?_;rintro e w2 ⟨rfl,k2⟩;(have K2:=Lib.hid (K1.out.trans k2 (T:=fun _=>False) (fun _ _ f=>f) (fun _ _ f=>f)));clear k2)
      | (go_at_call 40;refine (EX.out _).mono ?_;rintro e w3 ⟨rfl,k3⟩;(have K3:=Lib.hid ((K2.out.alloc (.cells #[.int .i64 m.tr,.int .i64 m.id,.int .i64 m.pa,.string m.se,.string m.ho,.int .i64 m.st,.int .i64 m.du,.string m.no] 96)).trans k3 (T:=fun _=>False) (fun _ _ f=>f) (fun _ _ f=>f)));clear k3))
     go_roundg (n - i - 1)
     case measure=>have:=GH.out;omega
     case rel=>exact ⟨i+1,O,by have:=GH.out;omega,by go_num,by rw [TK.out];simp [oneM,LB.out],own_kept OW.out K3.out (fun _ _ f=>f),KW.out.trans K3.out (T:=fun _=>False) (fun _ _ f=>f) (fun _ _ f=>f)⟩
    | false=>
     go_wp2_with (first
      | (go_at_call 103;refine (SP.out _).mono ?_;rintro e w2 ⟨rfl,k2⟩;(have K2:=Lib.hid (K1.out.trans k2 (T:=fun _=>False) (fun _ _ f=>f) (fun _ _ f=>f)));clear k2)
      | (go_at_call 40;refine (EX.out _).mono ?_;rintro e w3 ⟨rfl,k3⟩;(have K3:=Lib.hid ((K2.out.alloc (.cells #[.int .i64 m.tr,.int .i64 m.id,.int .i64 m.pa,.string m.se,.string m.ho,.int .i64 m.st,.int .i64 m.du,.string m.no] 96)).trans k3 (T:=fun _=>False) (fun _ _ f=>f) (fun _ _ f=>f)));obtain ⟨h0,h1,h2,h3,h4,h5,h6,h7⟩:=(SpanAt.new (w:=w2) (m:=m)).keptF k3 |>.all8;clear k3)
      | (at_builtin;refine wpList_append_own _ rfl _ _ 30 rfl B 96 i0 _ 8 88 Tryz.underlying30 hi0 hz0 hz1 hz2 rfl (by decide) _ _ _ rfl (own_kept (own_kept OW.out K3.out (fun _ _ f=>f)) ((Kept.refl (fun _=>False) w3).alloc _) (fun _ _ f=>f)) ⟨w3.heap.size,0,none⟩ 1 1 m.cells rfl rfl (World.news_of_block (heap_alloc_new w3 _)) (by intro u hu;simp [Spn.cells] at hu;rcases hu with rfl | rfl | rfl | rfl | rfl | rfl | rfl | rfl <;> rfl) (by unfold maxLen;have:=OLH.out;omega) (by have:=OLH.out;omega) (by have:=K3.out.size;have:=KW.out.size;have:=HB.out;simp;omega) ?_;intro v' w8 hown hgrow hnil;(have G8:=Lib.hid (grown_kept hgrow));(have O8:=Lib.hid hown);clear hown hgrow hnil))
     go_roundg (n - i - 1)
     case measure=>have:=GH.out;omega
     case rel=>
      refine ⟨i+1,O++[m],by have:=GH.out;omega,by go_num,by rw [TK.out];simp [oneM,LB.out],?_,?_⟩
      ·have l1 : (O ++ [m]).length = O.length + 1 := by simp
       have l2:cellsS (O++[m])=cellsS O++m.cells:=by rw [cellsS_append];simp [cellsS]
       rw [l1,l2]
       exact O8.out
      ·refine ((KW.out.trans K3.out (T := fun _ => False) (fun _ _ f => f) (fun _ _ f => f)).alloc _).trans G8.out (fun _ _ f => f) (fun q hq e => ?_)
       have:=own_from OW.out e
       have:=HB.out
       omega
  ·have hi : i = n := by omega
   subst hi
   clear hk hgh
   go_wp2_with fail
   go_ret
   have e:O=liveM now M:=by
    rw [HO.out,List.take_of_length_le (by have:=HLM.out;have:=HN.out;omega)]
   rw [← e]
   exact ⟨⟨_,rfl,OW.out⟩,KW.out⟩
end
/- The cells of spans, plainly. -/
section
open Go.RowKit Go.Lib
set_option maxRecDepth 100000
theorem putF_size5 (n:Int)(h:n≤2147483647):(putF n).size≤5:=by
 unfold putF
 split
 ·exact Nat.zero_le _
 ·rw [strOfNums_size, putL_length]
  unfold putM
  have:=Lib.bitLen_le n.toNat 31 (by decide) (by omega)
  omega
theorem ptxt_size25 (t:ByteArray)(h:t.size≤24):(ptxt t).size≤29:=by
 unfold ptxt
 rw [ByteArray.size_append]
 have:=putF_size5 t.size (by omega)
 omega
theorem encF_128 (m:Spn)(h:chkB m=true):(encF m).size≤128:=by
 have hz:=chk_size h
 have hn:=chk_num h
 have e:(encF m).size=(accT m 3).length:=by rw [← data_length];rfl
 rw [e]
 have a0:=putF_size5 (numJ m 0) (by show m.tr≤_;omega)
 have a1:=putF_size5 (numJ m 1) (by show m.id≤_;omega)
 have a2:=putF_size5 (numJ m 2) (by show m.pa≤_;omega)
 have a3:=putF_size5 (numJ m 3) (by show m.st≤_;omega)
 have a4:=putF_size5 (numJ m 4) (by show m.du≤_;omega)
 have b0:=ptxt_size25 (textJ m 0) (by show m.se.size≤_;omega)
 have b1:=ptxt_size25 (textJ m 1) (by show m.ho.size≤_;omega)
 have b2:=ptxt_size25 (textJ m 2) (by show m.no.size≤_;omega)
 simp only [accT,accN,List.length_append,data_length,List.length_nil]
 omega
theorem keyF_list (tr id:Int):∃ l,(keyF tr id).data.toList=115::l:=⟨_,by unfold keyF sS;rw [ByteArray.data_append,Array.toList_append];rfl⟩
theorem xkeyF_list (m:Spn):∃ l,(xkeyF m).data.toList=120::l:=⟨_,by unfold xkeyF xS;simp only [ByteArray.data_append,Array.toList_append,List.append_assoc];rfl⟩
theorem key_ne_x (tr id:Int)(m:Spn):keyF tr id≠xkeyF m:=by
 intro h
 obtain ⟨l,hl⟩:=keyF_list tr id
 obtain ⟨k,hk⟩:=xkeyF_list m
 rw [h,hk] at hl
 simp at hl
theorem keyF_ne (tr id:Int):keyF tr id≠⟨#[]⟩:=by
 intro h
 obtain ⟨l,hl⟩:=keyF_list tr id
 rw [h] at hl
 simp at hl
theorem xkeyF_ne (m:Spn):xkeyF m≠⟨#[]⟩:=by
 intro h
 obtain ⟨l,hl⟩:=xkeyF_list m
 rw [h] at hl
 simp at hl
theorem keyF_size (tr id:Int):(keyF tr id).size≤17:=by
 unfold keyF sS
 have h1:=bigF_size tr
 have h2:=bigF_size id
 simp only [ByteArray.size_append]
 show 1+_≤17
 omega
theorem xkeyF_size (m:Spn)(h:chkB m=true):(xkeyF m).size≤51:=by
 have hz:=chk_size h
 unfold xkeyF xS nS
 have h1:=bigF_size m.tr
 have h2:=bigF_size m.id
 have h3:=bigF_size m.st
 simp only [ByteArray.size_append]
 show 1+m.se.size+1+m.ho.size+1+_≤51
 omega
/-- A span's two cells; those of a list. -/
def cell2 (m:Spn):List Cel:=[⟨keyS m,0,encF m⟩,⟨xkeyF m,0,.empty⟩]
def cellsL:List Spn→List Cel
 | []=>[]
 | m::t=>cell2 m++cellsL t
theorem cellsL_append:∀ a b,cellsL (a++b)=cellsL a++cellsL b
 | [],_=>rfl
 | m::t,b=>by simp [cellsL,cellsL_append t b]
theorem cellsL_length:∀ a,(cellsL a).length=2 * a.length
 | []=>rfl
 | m::t=>by simp [cellsL,cell2,cellsL_length t];omega
theorem cellsC_cellsL:∀ L,cellsC (cellsL L)=cellsT L
 | []=>rfl
 | m::t=>by
  have:=cellsC_cellsL t
  simp only [cellsL,cell2,List.cons_append,List.nil_append,cellsC,cellsT,cellsOfS,keyS] at this ⊢
  rw [this]
theorem mem_cellsL {c:Cel}:∀ {L:List Spn},c∈cellsL L→∃ m∈L,c∈cell2 m
 | m::t,h=>by
  rcases List.mem_append.1 h with h | h
  ·exact ⟨m,by simp,h⟩
  ·obtain ⟨x, hx, hc⟩ := mem_cellsL h
   exact ⟨x,by simp [hx],hc⟩
theorem may_of {c:Cel}(h1:c.k≠⟨#[]⟩)(h2:c.k.size≤64)(h3:0≤c.s)(h4:c.v.size≤128):mayC c=true:=by
 unfold mayC
 simp only [Bool.and_eq_true,decide_eq_true_eq]
 exact ⟨⟨h1,h2⟩,h3,h4⟩
theorem may_cell2 {m:Spn}(hB:chkB m=true){c:Cel}(h:c∈cell2 m):(∀ s:Int,0≤s→mayC ⟨c.k,s,c.v⟩=true)∧c.k≠⟨#[]⟩:=by
 have h1:=encF_128 m hB
 have h2:=keyF_size m.tr m.id
 have h3:=xkeyF_size m hB
 rcases List.mem_cons.1 h with rfl | h
 ·exact ⟨fun s hs=>may_of (keyF_ne _ _) (show (keyF m.tr m.id).size≤64 by omega) hs h1,keyF_ne _ _⟩
 ·rcases List.mem_cons.1 h with rfl | h
  ·exact ⟨fun s hs=>may_of (xkeyF_ne _) (show (xkeyF m).size≤64 by omega) hs (show ByteArray.empty.size≤128 from by decide),xkeyF_ne _⟩
  ·cases h
theorem may_cellsL {L:List Spn}(hB:∀ m∈L,chkB m=true){c:Cel}(h:c∈cellsL L):(∀ s:Int,0≤s→mayC ⟨c.k,s,c.v⟩=true)∧c.k≠⟨#[]⟩:=by
 obtain ⟨m,hm,hc⟩:=mem_cellsL h
 exact may_cell2 (hB m hm) hc
theorem seqL_append:∀ (a b:List Cel)(q:Int),seqL q (a++b)=seqL q a++seqL (q+a.length) b
 | [],b,q=>by simp [seqL]
 | c::t,b,q=>by
  have:=seqL_append t b (q+1)
  simp only [List.cons_append,seqL,this,List.length_cons]
  congr 3
  push_cast
  omega
end
/- What is there, plainly: of each key the last span that was laid. -/
section
open Go.RowKit Go.Lib
set_option maxRecDepth 100000
theorem cmpC_asym {a b:Cel}(h:cmpC a b<0)(k:cmpC b a<0):False:=by
 have:=(cmpC_is.anti a b).1 h
 omega
theorem perm_sorted:∀ {a b:List Cel},SortedC a→SortedC b→a.Perm b→a=b
 | [],_,_,_,h=>(List.nil_perm.1 h).symm
 | x::t,[],_,_,h=>by cases List.perm_nil.1 h
 | x::t,y::u,ha,hb,h=>by
  have hx:x∈y::u:=h.subset (by simp)
  have hy:y∈x::t:=h.symm.subset (by simp)
  have ha':=List.pairwise_cons.1 ha
  have hb':=List.pairwise_cons.1 hb
  have e:x=y:=by
   rcases List.mem_cons.1 hx with e | hx
   ·exact e
   ·rcases List.mem_cons.1 hy with e | hy
    ·exact e.symm
    ·exact (cmpC_asym (ha'.1 y hy) (hb'.1 x hx)).elim
  subst e
  rw [perm_sorted ha'.2 hb'.2 (List.perm_cons _ |>.1 h)]
theorem cmpC_same {d e:Cel}(hk:d.k=e.k)(h:cmpC d e<0):e.s<d.s:=by
 unfold cmpC or2 at h
 rw [hk] at h
 rw [if_pos ((cmpS_zero _ _).2 rfl)] at h
 unfold cmpI at h
 split at h
 ·assumption
 ·split at h <;> omega
theorem get_last {C Tc:List Cel}(hs:SortedC C)(hp:C.Perm Tc)(hr:Tc.Pairwise fun a b=>a.s<b.s)(k:ByteArray):getL C k=(Tc.filter fun c=>decide (c.k=k)).getLast?:=by
 have hf:=hp.filter (fun c=>decide (c.k=k))
 have hC:=hs.filter (fun c=>decide (c.k=k))
 have hT:=hr.filter (fun c=>decide (c.k=k))
 have hk:∀ c∈C.filter (fun c=>decide (c.k=k)),c.k=k:=fun c hc=>by simpa using (List.mem_filter.1 hc).2
 unfold getL
 generalize C.filter (fun c=>decide (c.k=k))=A at *
 generalize Tc.filter (fun c=>decide (c.k=k))=B at *
 cases A with
 | nil=>rw [List.nil_perm.1 hf];rfl
 | cons d t=>
  have hB:B≠[]:=by rintro rfl;cases List.perm_nil.1 hf
  rw [List.head?_cons,List.getLast?_eq_some_getLast hB]
  congr 1
  have hd:d∈B:=hf.subset (by simp)
  have he:B.getLast hB∈d::t:=hf.symm.subset (List.getLast_mem hB)
  have e:=(List.dropLast_concat_getLast hB).symm
  generalize B.getLast hB=x at *
  generalize B.dropLast=y at *
  subst e
  rw [List.pairwise_append] at hT
  rcases List.mem_append.1 hd with hd | hd
  ·have h1 := hT.2.2 d hd x (by simp)
   rcases List.mem_cons.1 he with e | he
   ·exact e.symm
   ·have h2 := cmpC_same ((hk d (by simp)).trans (hk x (by simp [he])).symm) ((List.pairwise_cons.1 hC).1 x he)
    omega
  ·simpa using hd
theorem seqL_rise:∀ (L:List Cel)(q:Int),(seqL q L).Pairwise (fun a b=>a.s<b.s)∧∀ c∈seqL q L,q<c.s
 | [],q=>⟨List.Pairwise.nil,fun c h=>by cases h⟩
 | x::t,q=>by
  have h:=seqL_rise t (q+1)
  refine ⟨List.pairwise_cons.2 ⟨fun c hc=>h.2 c hc,h.1⟩,fun c hc=>?_⟩
  rcases List.mem_cons.1 hc with rfl | hc
  ·show q<q+1;omega
  ·have:=h.2 c hc;omega
/-- Of each key the last span that was laid. -/
def lastT (T:List Spn)(k:ByteArray):Option Spn:=(T.filter fun m=>decide (keyS m=k)).getLast?
theorem lastT_snoc (T:List Spn)(m:Spn)(k:ByteArray):lastT (T++[m]) k=if keyS m=k then some m else lastT T k:=by
 unfold lastT
 rw [List.filter_append]
 by_cases h:keyS m=k
 ·simp [h]
 ·simp [h]
theorem lastT_key {T:List Spn}{k:ByteArray}{m:Spn}(h:lastT T k=some m):keyS m=k∧m∈T:=by
 unfold lastT at h
 have:=List.mem_filter.1 (List.mem_of_getLast? h)
 exact ⟨by simpa using this.2,this.1⟩
theorem snoc_ind {P:List Spn→Prop}(h0:P [])(h1:∀ T m,P T→P (T++[m]))(T:List Spn):P T:=by
 have:∀ L:List Spn,P L.reverse:=by
  intro L
  induction L with
  | nil=>exact h0
  | cons m t ih=>rw [List.reverse_cons];exact h1 _ _ ih
 simpa using this T.reverse
/-- What a cell's key finds: the last span of it. -/
theorem find_last (tr id:Int)(T:List Spn):∃ q:Int,0≤q∧((seqL 0 (cellsL T)).filter fun c=>decide (c.k=keyF tr id)).getLast? = (lastT T (keyF tr id)).map fun m=>⟨keyF tr id,q,encF m⟩:=by
 refine snoc_ind (P:=fun T=>∃ q:Int,0≤q∧((seqL 0 (cellsL T)).filter fun c=>decide (c.k=keyF tr id)).getLast? = (lastT T (keyF tr id)).map fun m=>⟨keyF tr id,q,encF m⟩) ⟨0,by omega,rfl⟩ ?_ T
 rintro T m ⟨q,hq,h⟩
 have hz:(0:Int)≤0+((cellsL T).length:Nat):=by omega
 rw [cellsL_append,seqL_append,List.filter_append,lastT_snoc]
 generalize (0:Int)+((cellsL T).length:Nat)=z at *
 have e:seqL z (cellsL [m])=[⟨keyS m,z+1,encF m⟩,⟨xkeyF m,z+1+1,.empty⟩]:=rfl
 have hx:¬ xkeyF m=keyF tr id:=fun h=>key_ne_x tr id m h.symm
 rw [e]
 by_cases hk:keyS m=keyF tr id
 ·rw [if_pos hk]
  refine ⟨z+1,by omega,?_⟩
  rw [List.filter_cons_of_pos (by simpa using hk),List.filter_cons_of_neg (by simpa using hx),List.filter_nil,List.getLast?_concat,hk]
  rfl
 ·rw [if_neg hk]
  refine ⟨q,hq,?_⟩
  rw [List.filter_cons_of_neg (by simpa using hk),List.filter_cons_of_neg (by simpa using hx),List.filter_nil,List.append_nil,h]
/-- What the memory finds of a span's key. -/
theorem get_lastT {C:List Cel}{T:List Spn}(hs:SortedC C)(hp:C.Perm (seqL 0 (cellsL T)))(tr id:Int):∃ q:Int,0≤q∧getL C (keyF tr id)=(lastT T (keyF tr id)).map fun m=>⟨keyF tr id,q,encF m⟩:=by
 rw [get_last hs hp (seqL_rise _ _).1]
 exact find_last tr id T
/-- Which span each cell has. -/
theorem cell_is {T:List Spn}(hT:∀ m∈T,chkB m=true){c:Cel}(h:c∈seqL 0 (cellsL T)):∃ o,CellIs c o:=by
 obtain ⟨d,hd,j,hj,rfl⟩:=seqL_mem h
 obtain ⟨m,hm,hc⟩:=mem_cellsL hd
 rcases List.mem_cons.1 hc with rfl | hc
 ·exact ⟨some m,hT m hm,rfl,rfl⟩
 ·rcases List.mem_cons.1 hc with rfl | hc
  ·exact ⟨none,rfl⟩
  ·cases hc
theorem row_is:∀ {R:List Cel},(∀ c∈R,∃ o,CellIs c o)→∃ M:List (Option Spn),M.length=R.length∧∀ (i:Nat)(c:Cel),R[i]? = some c→∃ o,M[i]? = some o∧CellIs c o
 | [],_=>⟨[],rfl,fun i c h=>by simp at h⟩
 | x::t,h=>by
  obtain ⟨o,ho⟩:=h x (by simp)
  obtain ⟨M,hl,hM⟩:=row_is (R:=t) fun c hc=>h c (by simp [hc])
  refine ⟨o::M,by simp [hl],fun i c hc=>?_⟩
  cases i with
  | zero=>simp at hc;subst hc;exact ⟨o,rfl,ho⟩
  | succ i=>simpa using hM i c (by simpa using hc)
theorem may_all {T:List Spn}(hT:∀ m∈T,chkB m=true){c:Cel}(h:c∈seqL 0 (cellsL T)):mayC c=true:=by
 obtain ⟨d,hd,j,hj,rfl⟩:=seqL_mem h
 exact (may_cellsL hT hd).1 _ (by omega)
theorem seq_all {T:List Spn}{c:Cel}(h:c∈seqL 0 (cellsL T)):0≤c.s∧c.s≤2 * (T.length:Int):=by
 obtain ⟨d,hd,j,hj,rfl⟩:=seqL_mem h
 rw [cellsL_length] at hj
 show 0≤0+1+(j:Int)∧0+1+(j:Int)≤_
 omega
end
/- A store that holds spans: what is put, what is got. -/
section
open Go.RowKit Go.Lib
set_option maxRecDepth 100000
/-- A store whose cells are those of spans, in the order in which they came; its own blocks lie from B on. -/
structure HoldT (B:Nat) (S:Sto) (own:Nat→Prop) (w:World) (n t:Nat) (T:List Spn):Prop where
 chk:∀ m∈T,chkB m=true
 at_:∃ F ps,StAt S own w F n t ps (2 * (T.length:Int))∧(allP ps).Perm (seqL 0 (cellsL T))
 base:∀ b,S.turn own b→B≤b
section
variable {B:Nat}{S:Sto}{own:Nat→Prop}{w:World}{n t:Nat}{T:List Spn}
theorem HoldT.kept {X:Nat→Prop}{w':World}(h:HoldT B S own w n t T)(K:Kept X w w')(h1:∀ b,S.still b→¬ X b)(h2:∀ b,S.turn own b→¬ X b):HoldT B S own w' n t T:=by
 obtain ⟨F,ps,A,P⟩:=h.at_
 exact ⟨h.chk,⟨F,ps,A.kept K h1 h2,P⟩,h.base⟩
theorem HoldT.keptF {w':World}(h:HoldT B S own w n t T)(K:Kept (fun _=>False) w w'):HoldT B S own w' n t T:=h.kept K (fun _ _ f=>f) (fun _ _ f=>f)
theorem HoldT.lts (h:HoldT B S own w n t T):(∀ b,S.still b→b<w.heap.size)∧∀ b,S.turn own b→b<w.heap.size:=by
 obtain ⟨F,ps,A,_⟩:=h.at_
 have l:=A.lts
 refine ⟨l.1,fun b hb=>?_⟩
 rcases hb with hb | rfl | rfl
 ·exact A.ob b hb
 ·exact l.2.1
 ·exact l.2.2
theorem HoldT.later {n' t':Nat}(h:HoldT B S own w n t T)(h1:n≤n')(h2:t≤t'):HoldT B S own w n' t' T:=by
 obtain ⟨F,ps,A,P⟩:=h.at_
 exact ⟨h.chk,⟨F,ps,{ A with fls:=A.fls.mono h1 h2 },P⟩,h.base⟩
/-- What lies behind the store's blocks, or is none of them, may turn. -/
theorem HoldT.set {w':World}{g:Nat}(h:HoldT B S own w n t T)(K:Kept (fun b=>b=g) w w')(h1:¬ S.still g)(h2:¬ S.turn own g):HoldT B S own w' n t T:=
 h.kept K (fun _ hb e=>h1 (e ▸ hb)) (fun _ hb e=>h2 (e ▸ hb))
/-- What Get answers of a span's key. -/
def gcT (ps:List Pg)(k:ByteArray):Ce:=⟨((getL (allP ps) k).getD zeroC).k,((getL (allP ps) k).getD zeroC).s,((getL (allP ps) k).getD zeroC).v⟩
def gbT (ps:List Pg)(k:ByteArray):Bool:=(getL (allP ps) k).isSome
def drT (now:Int)(T:List Spn)(c:Ce):Bool:=match lastT T c.ke with
 | some m=>lateB m.st now
 | none=>false
/-- Is a span of the key there that has not expired? -/
def oldT (now:Int)(T:List Spn)(k:ByteArray):Bool:=match lastT T k with
 | some m=>!lateB m.st now
 | none=>false
theorem old_eq {now:Int}{ps:List Pg}(hs:SortedC (allP ps))(hp:(allP ps).Perm (seqL 0 (cellsL T)))(m:Spn):(gbT ps (keyS m) && !drT now T (gcT ps (keyS m)))=oldT now T (keyS m):=by
 obtain ⟨q,hq,h⟩:=get_lastT hs hp m.tr m.id
 unfold gbT drT gcT oldT
 rw [show keyS m=keyF m.tr m.id from rfl,h]
 cases e:lastT T (keyF m.tr m.id) with
 | none=>rfl
 | some x=>simp [e]
theorem hget {F:List Fl}{ps:List Pg}(A:StAt S own w F n t ps (2 * (T.length:Int)))(hp:(allP ps).Perm (seqL 0 (cellsL T)))(hT:T.length≤1500)(m:Spn) :
  Calls Tryz.prog 51 #[.pointer (some ⟨S.s,0,none⟩),.string (keyS m)] w fun e w''=>e = .returned (.tuple #[aggC (gcT ps (keyS m)),.bool (gbT ps (keyS m))])∧Kept (fun _=>False) w w'':=by
 have hl:(allP ps).length≤10000:=by rw [hp.length_eq,seqL_length,cellsL_length];omega
 have hk:(keyS m).size≤100000:=Nat.le_trans (keyF_size m.tr m.id) (by decide)
 exact sget_any A hl hk (keyF_ne m.tr m.id)
theorem hdrop {ps:List Pg}(hs:SortedC (allP ps))(hp:(allP ps).Perm (seqL 0 (cellsL T)))(hc:∀ m∈T,chkB m=true){now:Int}(hnow:now≤9223372036854775807)(m:Spn)(hg:gbT ps (keyS m)=true)(w':World) :
  Calls Tryz.prog 79 #[aggC (gcT ps (keyS m)),.int .i64 now] w' fun e w''=>e = .returned (.bool (drT now T (gcT ps (keyS m))))∧Kept (fun _=>False) w' w'':=by
 obtain ⟨q,hq,h⟩:=get_lastT hs hp m.tr m.id
 cases e:lastT T (keyF m.tr m.id) with
 | none=>
  unfold gbT at hg
  rw [show keyS m=keyF m.tr m.id from rfl,h,e] at hg
  cases hg
 | some x=>
  have hx:=lastT_key e
  rw [e] at h
  have e1:gcT ps (keyS m)=⟨keyS x,q,encF x⟩:=by
   unfold gcT
   rw [show keyS m=keyF m.tr m.id from rfl,h,hx.1]
   rfl
  rw [e1]
  have e2:drT now T ⟨keyS x,q,encF x⟩=lateB x.st now:=by
   unfold drT
   simp only [hx.1,e]
  rw [e2]
  exact dropped_put x q now (hc x hx.2) hnow w'
theorem take_congr {now:Int}{f g:ByteArray→Bool}:∀ {L:List Spn}{K:List ByteArray},(∀ m∈L,f (keyS m)=g (keyS m))→takeR now f L K=takeR now g L K
 | [],_,_=>rfl
 | m::t,K,h=>by
  unfold takeR
  rw [h m (by simp)]
  have ih:=fun K=>take_congr (now:=now) (f:=f) (g:=g) (L:=t) (K:=K) fun x hx=>h x (by simp [hx])
  rw [ih K,ih (K++[keyS m])]
theorem take_sub {now:Int}{f:ByteArray→Bool}:∀ {L:List Spn}{K:List ByteArray},∀ m∈takeR now f L K,m∈L∧lateB m.st now=false
 | [],_,m,h=>by cases h
 | x::t,K,m,h=>by
  unfold takeR at h
  cases hb:lateB x.st now || decide (keyS x∈K) || f (keyS x) with
  | true=>
   rw [hb] at h
   have:=take_sub m h
   exact ⟨by simp [this.1],this.2⟩
  | false=>
   rw [hb] at h
   rcases List.mem_cons.1 h with rfl | h
   ·refine ⟨by simp, ?_⟩
    cases hl:lateB m.st now with
    | true=>rw [hl] at hb;simp at hb
    | false=>rfl
   ·have := take_sub m h
    exact ⟨by simp [this.1],this.2⟩
theorem take_length {now:Int}{f:ByteArray→Bool}:∀ {L:List Spn}{K:List ByteArray},(takeR now f L K).length≤L.length
 | [],_=>Nat.le_refl _
 | x::t,K=>by
  unfold takeR
  split
  ·have := take_length (now := now) (f := f) (L := t) (K := K)
   simp only [List.length_cons];omega
  ·have := take_length (now := now) (f := f) (L := t) (K := K ++ [keyS x])
   simp only [List.length_cons];omega
/-- Cells of spans are put. -/
theorem hput {N:List Spn}{v:Value}{b:Nat}(h:HoldT B S own w n t T)(hB:B≤w.heap.size)(hv:w.ownsRow b 132 3 v (2 * N.length) (cellsT N))(hN:∀ m∈N,chkB m=true)(hl:N.length≤20)(hT:T.length≤1500)(hn:n≤900)(ht:t+9300≤1048576) :
  Calls Tryz.prog 52 #[.pointer (some ⟨S.s,0,none⟩),v] w fun e w'=>e = .returned (.int .i64 0)∧∃ own',HoldT B S own' w' (n+1) (t+9300) (T++N)∧(∀ b,own' b→own b∨w.heap.size≤b)∧Kept (S.turn own) w w':=by
 obtain ⟨F,ps,A,P⟩:=h.at_
 have hlen:=cellsL_length N
 have hpl:(allP ps).length=2 * T.length:=by rw [P.length_eq,seqL_length,cellsL_length]
 have R:∃ ao cap,v = .slice ao (cellsL N).length cap∧((ao=none∧cap=0∧cellsL N=[])∨∃ g o,ao=some ⟨g,o,none⟩∧∀ (j:Nat) (u:Value),(cellsC (cellsL N))[j]? = some u→w.cell? ⟨g,o+j,none⟩=some u):=by
  rw [hlen]
  rcases row_form hv with ⟨e,e0⟩ | ⟨g,cap,e,_,_,_,f⟩
  ·exact ⟨none,0,by rw [e,e0],.inl ⟨rfl,rfl,List.eq_nil_of_length_eq_zero (by omega)⟩⟩
  ·exact ⟨_,cap,e,.inr ⟨g,0,rfl,fun j u hu=>by rw [Nat.zero_add];exact f j u (by rw [cellsC_cellsL] at hu;exact hu)⟩⟩
 obtain ⟨ao,cap,rfl,R⟩:=R
 refine (sput_any A R (fun c hc=>(may_cellsL hN hc).1) (fun c hc=>(may_cellsL hN hc).2) (by omega) (by omega) (fun d hd=>(seq_all (P.subset hd)).2) (by omega) (by omega) hn (by omega)).mono ?_
 rintro e w' ⟨rfl,own',ps',F',A',P',o1,o2,K⟩
 refine ⟨rfl,own',⟨?_,⟨F',ps',?_,?_⟩,?_⟩,o2,K⟩
 ·intro m hm
  rcases List.mem_append.1 hm with hm | hm
  ·exact h.chk m hm
  ·exact hN m hm
 ·have e : 2 * (T.length : Int) + ((cellsL N).length : Nat) = 2 * ((T ++ N).length : Int) := by rw [List.length_append]; omega
  rw [e] at A'
  exact { A' with fls:=A'.fls.mono (Nat.le_refl _) (by omega) }
 ·refine P'.trans ?_
  rw [cellsL_append,seqL_append,cellsL_length]
  have e:(0:Int)+((2 * T.length:Nat):Int)=2 * (T.length:Int):=by omega
  rw [e]
  exact P.append (List.Perm.refl _)
 ·intro b hb
  rcases hb with hb | hb
  ·rcases o2 b hb with hb | hb
   ·exact h.base b (.inl hb)
   ·omega
  ·exact h.base b (.inr hb)
end
end
/- ingest.Take into a store that holds spans. -/
section
open Go.RowKit Go.Lib
set_option maxRecDepth 100000
/-- What is taken of a batch; what is answered. -/
def tookN (now:Int)(T:List Spn)(x:Int)(L:List Spn):List Spn:=match decide (x=0) with
 | true=>takeR now (oldT now T) L []
 | false=>[]
def ackV (x ho fi:Int)(n k:Nat):Value:=match decide (x=0) with
 | true=>.tuple #[.agg #[.int .i64 ho,.int .i64 fi,.int .i64 (fi+n)],.int .i64 k,.int .i64 0]
 | false=>.tuple #[.agg #[.int .i64 0,.int .i64 0,.int .i64 0],.int .i64 0,.int .i64 x]
/-- What a batch that came leaves. -/
def Took (B:Nat)(S:Sto)(own:Nat→Prop)(w:World)(n t:Nat)(T:List Spn)(now ho fi:Int)(L:List Spn)(e:Ending)(w':World):Prop:=
 e = .returned (ackV (chkI ho fi L) ho fi L.length (tookN now T (chkI ho fi L) L).length)∧∃ own',HoldT B S own' w' (n+1) (t+9300) (T++tookN now T (chkI ho fi L) L)∧(∀ b,own' b→own b∨w.heap.size≤b)∧Kept (S.turn own) w w'
theorem lt_no {n:Nat}(h:n+1<n):False:=by omega
set_option maxHeartbeats 8000000 in
theorem take_any12 {B:Nat}{S:Sto}{own:Nat→Prop}{w:World}{n t:Nat}{T L:List Spn}{ho fi now:Int}{v:Value}(H:HoldT B S own w n t T)(hB:B≤w.heap.size)(hnow:now≤9223372036854775807)(hr:ReadsS w v L)(hl:L.length≤20)(hfit:∀ y∈L,y.se.size≤9223372036854775807∧y.ho.size≤9223372036854775807∧y.no.size≤9223372036854775807)
  (hT:T.length≤1500)(hn:n≤900)(ht:t+9300≤1048576) :
  Calls Tryz.prog 12 #[.pointer (some ⟨S.s,0,none⟩),.agg #[.int .i64 ho,.int .i64 fi,v],.int .i64 now] w (Took B S own w n t T now ho fi L):=by
 have tt:∀ {a b c:World},Kept (fun _=>False) a b→Kept (fun _=>False) b c→Kept (fun _=>False) a c:=fun h k=>h.trans k (fun _ _ h=>h) (fun _ _ h=>h)
 have C:=Lib.hid (fun w' (K:Kept (fun _=>False) w w')=>check12 (ho:=ho) (fi:=fi) (hr.keptF K) hl hfit)
 obtain ⟨F,ps,A,P⟩:=H.at_
 have TK:=Lib.hid (fun (hc:∀ m∈L,chkB m=true) w' (K:Kept (fun _=>False) w w')=>take_rows (p:=.pointer (some ⟨S.s,0,none⟩)) now (gcT ps) (gbT ps) (drT now T) (hr.keptF K) hl hc hnow
  (fun W KW k ⟨m,_,hm⟩=>hm ▸ hget (A.keptF (tt K KW)) P hT m) (fun W k ⟨m,_,hm⟩ hg=>by subst hm;exact hdrop A.srt P H.chk hnow m hg W))
 have CG:=Lib.hid (take_congr (now:=now) (f:=fun k=>gbT ps k && !drT now T (gcT ps k)) (g:=oldT now T) (L:=L) (K:=[]) (fun m _=>old_eq (T:=T) (now:=now) A.srt P m))
 have CA:=Lib.hid (fun h=>chkI_all (ho:=ho) (fi:=fi) (L:=L) h)
 have RM:=Lib.hid (fun h=>chkI_room (ho:=ho) (fi:=fi) (L:=L) h)
 have HH:=Lib.hid H
 have SZ:=Lib.hid (And.intro hT (And.intro hn ht))
 have LL:=Lib.hid hl
 have HB:=Lib.hid hB
 unfold Took tookN ackV
 obtain ⟨x,hx⟩:∃ x,chkI ho fi L=x:=⟨_,rfl⟩
 rw [hx] at C CA RM ⊢
 have RW:L.length=0∨∃ ao cap,v = .slice ao L.length cap:=by
  obtain ⟨ao,cap,e,_⟩:=hr
  exact .inr ⟨ao,cap,e⟩
 obtain ⟨ao,cap,ev,_⟩:=hr
 clear RW hx hl hfit H hT hn ht hB A P F
 obtain ⟨ln,hln⟩:∃ ln,L.length=ln:=⟨_,rfl⟩
 rw [hln] at ev RM LL ⊢
 by_cases h0:x=0
 ·subst h0
  rw [show decide ((0:Int)=0)=true from rfl]
  have hall:=CA.out rfl
  have TT:=Lib.hid (TK.out hall)
  have rm:=RM.out rfl
  clear TK RM
  unfold TakenAs at TT
  obtain ⟨N,hN⟩:∃ N,takeR now (oldT now T) L []=N:=⟨_,rfl⟩
  rw [CG.out,hN] at TT
  have NC:=Lib.hid (show (∀ m∈N,chkB m=true)∧N.length≤20 from by
   rw [← hN]
   exact ⟨fun m hm=>hall m (take_sub m hm).1,Nat.le_trans take_length (by rw [hln];exact LL.out)⟩)
  simp only [hN]
  have HNN:=Lib.hid hN
  clear hN hall CG
  obtain ⟨k,hk⟩:∃ k,N.length=k:=⟨_,rfl⟩
  have HK:=Lib.hid hk
  rw [hk] at TT NC ⊢
  clear hk
  subst ev
  have l20:=LL.out
  go_enter Tryz.func12,Tryz.ntmps12
  go_wp2_with fail
  refine (C.out _ (((Kept.refl _ _).alloc _).alloc _)).mono ?_
  rintro e w1 ⟨rfl,k1⟩
  have r0:=k1.cell (a:=⟨w.heap.size+1,0,none⟩) (v:=.int .i64 0) (by go_simp) (fun f=>f)
  have r1:=k1.cell (a:=⟨w.heap.size+1,1,none⟩) (v:=.int .i64 0) (by go_simp) (fun f=>f)
  have r2:=k1.cell (a:=⟨w.heap.size+1,2,none⟩) (v:=.int .i64 0) (by go_simp) (fun f=>f)
  have f1:∀ j,w1.frozen? ⟨w.heap.size+1,j,none⟩=false:=fun j=>k1.frozen (by go_simp) (by first | go_simp | (simp;done) | (simp;omega)) (fun f=>f)
  have q0:=k1.cell (a:=⟨w.heap.size,0,none⟩) (v:=.int .i64 ho) (by go_simp) (fun f=>f)
  have q1:=k1.cell (a:=⟨w.heap.size,1,none⟩) (v:=.int .i64 fi) (by go_simp) (fun f=>f)
  have q2:=k1.cell (a:=⟨w.heap.size,2,none⟩) (v:=.slice ao ln cap) (by go_simp) (fun f=>f)
  have K1:=Lib.hid (tt (((Kept.refl _ _).alloc _).alloc _) k1)
  clear k1
  obtain ⟨g,hg⟩:∃ g,w.heap.size=g:=⟨_,rfl⟩
  have HG:=Lib.hid hg
  rw [hg] at r0 r1 r2 f1 q0 q1 q2 ⊢
  clear hg
  go_wp2_with fail
  refine (TT.out _ K1.out).mono ?_
  rintro e w2 ⟨vo,vc,rfl,ho1,hc1,k2⟩
  obtain ⟨oa,oc,rfl⟩:=own_slice ho1
  have bl2:=World.block_lt_of_cell? _ _ r0
  have r0:=k2.cell r0 (fun f=>f)
  have r1:=k2.cell r1 (fun f=>f)
  have r2:=k2.cell r2 (fun f=>f)
  have q0:=k2.cell q0 (fun f=>f)
  have q1:=k2.cell q1 (fun f=>f)
  have q2:=k2.cell q2 (fun f=>f)
  have f1:∀ j,w2.frozen? ⟨g+1,j,none⟩=false:=fun j=>k2.frozen (f1 j) bl2 (fun f=>f)
  have K2:=Lib.hid (tt K1.out k2)
  have bl2':g+1<w2.heap.size:=Nat.lt_of_lt_of_le bl2 k2.size
  have PU:=Lib.hid (hput (HH.out.keptF K2.out) (by have:=HB.out;have:=K2.out.size;omega) (by rw [HK.out];exact hc1) NC.out.1 (by rw [HK.out];exact NC.out.2) SZ.out.1 SZ.out.2.1 SZ.out.2.2)
  have BL:=Lib.hid bl2'
  clear k2 bl2 bl2' ho1 hc1 K1 TT C
  go_wp2_with fail
  refine PU.out.mono ?_
  rintro e w3 ⟨rfl,own',H3,o3,k3⟩
  have LT:=HH.out.lts
  have ng:∀ b,g≤b→b<w2.heap.size→¬ S.turn own b:=fun b hb _ h=>by have:=LT.2 b h;have:=HG.out;omega
  have b1:=World.block_lt_of_cell? _ _ r0
  have r0:=k3.cell r0 (ng _ (by simp) b1)
  have r1:=k3.cell r1 (ng _ (by simp) b1)
  have r2:=k3.cell r2 (ng _ (by simp) b1)
  have b0:=World.block_lt_of_cell? _ _ q0
  have q0:=k3.cell q0 (ng _ (by simp) b0)
  have q1:=k3.cell q1 (ng _ (by simp) b0)
  have q2:=k3.cell q2 (ng _ (by simp) b0)
  have f1:∀ j,w3.frozen? ⟨g+1,j,none⟩=false:=fun j=>k3.frozen (f1 j) b1 (ng _ (by simp) b1)
  have NS:=Lib.hid (show ¬ S.still (g+1)∧¬ S.turn own' (g+1) from by
   have hG:=HG.out
   have hW:=K2.out.size
   refine ⟨fun h=>by have:=LT.1 _ h;omega,fun h=>?_⟩
   rcases h with h | h
   ·rcases o3 _ h with h | h
    ·have:=LT.2 _ (.inl h);omega
    ·have:=BL.out;omega
   ·have:=LT.2 _ (.inr h);omega)
  have K3:=Lib.hid (show Kept (S.turn own) w w3 from K2.out.trans k3 (fun _ _ f=>f.elim) (fun _ _ h=>h))
  have O3:=Lib.hid (show ∀ b,own' b→own b∨w.heap.size≤b from fun b hb=>(o3 b hb).imp (fun h=>h) (fun h=>Nat.le_trans K2.out.size h))
  have H3:=Lib.hid H3
  clear k3 b0 b1 ng LT o3 BL PU
  have e1:fi+(ln:Int)≤2147483647:=rm.2
  have e2:0≤fi:=rm.1
  go_wp2
  refine bodyPost_ret (v:=_) (by simp [results,Tryz.results12,go_sem,r0,r1,r2];try rfl) rfl ?_
  refine ⟨rfl,own',?_,O3.out,?_⟩
  ·refine H3.out.set ?_ NS.out.1 NS.out.2
   exact Kept.setAt (fun _=>rfl) (Kept.setAt (fun _=>rfl) (Kept.setAt (fun _=>rfl) (Kept.refl _ _)))
  ·have hg := HG.out
   subst hg
   exact Kept.setAt (fun h=>(lt_no h).elim) (Kept.setAt (fun h=>(lt_no h).elim) (Kept.setAt (fun h=>(lt_no h).elim) K3.out))
 ·rw [show decide (x = 0) = false by simpa using h0]
  have e0:(x != 0)=true:=by simpa using h0
  simp only [List.append_nil]
  clear TK CG CA RM SZ
  subst ev
  go_enter Tryz.func12,Tryz.ntmps12
  go_wp2_with fail
  refine (C.out _ (((Kept.refl _ _).alloc _).alloc _)).mono ?_
  rintro e w1 ⟨rfl,k1⟩
  have r0:=k1.cell (a:=⟨w.heap.size+1,0,none⟩) (v:=.int .i64 0) (by go_simp) (fun f=>f)
  have r1:=k1.cell (a:=⟨w.heap.size+1,1,none⟩) (v:=.int .i64 0) (by go_simp) (fun f=>f)
  have r2:=k1.cell (a:=⟨w.heap.size+1,2,none⟩) (v:=.int .i64 0) (by go_simp) (fun f=>f)
  have f1:∀ j,w1.frozen? ⟨w.heap.size+1,j,none⟩=false:=fun j=>k1.frozen (by go_simp) (by first | go_simp | (simp;done) | (simp;omega)) (fun f=>f)
  have K1:=Lib.hid (tt (((Kept.refl _ _).alloc _).alloc _) k1)
  clear k1
  go_wp2
  refine bodyPost_ret (v:=_) (by simp [results,Tryz.results12,go_sem,r0,r1,r2];try rfl) rfl ?_
  have KF:∀ {W:World},Kept (fun _=>False) w W→Kept (fun _=>False) w (((W.setCell ⟨w.heap.size+1,0,none⟩ (.int .i64 0)).setCell ⟨w.heap.size+1,1,none⟩ (.int .i64 0)).setCell ⟨w.heap.size+1,2,none⟩ (.int .i64 0)):=fun K=>
   Kept.setAt (fun h=>lt_no h) (Kept.setAt (fun h=>lt_no h) (Kept.setAt (fun h=>lt_no h) K))
  exact ⟨rfl,own,(HH.out.keptF (KF K1.out)).later (by omega) (by omega),fun _ h=>.inl h,(KF K1.out).mono (fun _ _ f=>f.elim)⟩
end
end Go.Proofs.YthknocapablpaaaGreatDoor
namespace Go.Proofs.YthknocapablpaaaGreatDoor.Rf
/- spoorref22: Check, Take. -/
section
set_option maxRecDepth 100000
open Go.RowKit

set_option maxHeartbeats 4000000 in
theorem rcheck15 {w:World}{ho fi:Int}{v:Value}{L:List Spn}(hr:ReadsS w v L)(hl:L.length≤20)(hfit:∀ y∈L,y.se.size≤9223372036854775807∧y.ho.size≤9223372036854775807∧y.no.size≤9223372036854775807) :
  Calls Tryz.prog 15 #[.agg #[.int .i64 ho,.int .i64 fi,v]] w fun e w'=>e = .returned (.int .i64 (chkI ho fi L))∧Kept (fun _=>False) w w':=by
 obtain ⟨ao,cap,rfl,h⟩:=hr
 have HR:=Lib.hid h
 have FIT:=Lib.hid hfit
 clear h hfit
 have tt:∀ {a b c:World},Kept (fun _=>False) a b→Kept (fun _=>False) b c→Kept (fun _=>False) a c:=fun h k=>h.trans k (fun _ _ h=>h) (fun _ _ h=>h)
 obtain ⟨n,hn⟩:∃ n,L.length=n:=⟨_,rfl⟩
 have OE:okI ho fi L=(hostB ho && (decide (0≤fi) && decide (fi≤2147483647 - (n:Int)))):=by unfold okI;rw [hn]
 have LE:lenI L=(decide (n≠0) && decide (n≤8)):=by unfold lenI;rw [hn]
 unfold chkI
 rw [hn] at hl ⊢
 rw [OE,LE]
 have HN:=Lib.hid hn
 clear hn OE LE
 unfold hostB
 by_cases h0:ho<0
 ·rw [show (decide (0 ≤ ho) && decide (ho < 4) && (decide (0 ≤ fi) && decide (fi ≤ 2147483647 - (n : Int)))) = false by simp; omega]
  go_enter Tryz.func15,Tryz.ntmps15
  go_wp2
  go_ret
  exact ⟨rfl,(Kept.refl _ _).alloc _⟩
 by_cases h1:4≤ho
 ·rw [show (decide (0 ≤ ho) && decide (ho < 4) && (decide (0 ≤ fi) && decide (fi ≤ 2147483647 - (n : Int)))) = false by simp; omega]
  go_enter Tryz.func15,Tryz.ntmps15
  go_wp2
  go_ret
  exact ⟨rfl,(Kept.refl _ _).alloc _⟩
 by_cases h2:fi<0
 ·rw [show (decide (0 ≤ ho) && decide (ho < 4) && (decide (0 ≤ fi) && decide (fi ≤ 2147483647 - (n : Int)))) = false by simp; omega]
  go_enter Tryz.func15,Tryz.ntmps15
  go_wp2
  go_ret
  exact ⟨rfl,(Kept.refl _ _).alloc _⟩
 by_cases h3:2147483647 - (n:Int)<fi
 ·rw [show (decide (0 ≤ ho) && decide (ho < 4) && (decide (0 ≤ fi) && decide (fi ≤ 2147483647 - (n : Int)))) = false by simp; omega]
  go_enter Tryz.func15,Tryz.ntmps15
  go_wp2
  go_ret
  exact ⟨rfl,(Kept.refl _ _).alloc _⟩
 rw [show (decide (0≤ho) && decide (ho<4) && (decide (0≤fi) && decide (fi≤2147483647 - (n:Int))))=true by simp;omega]
 by_cases g0:n=0
 ·rw [show (decide (n ≠ 0) && decide (n ≤ 8)) = false by simp [g0]]
  have g0':(n:Int)<1:=by omega
  clear g0
  go_enter Tryz.func15,Tryz.ntmps15
  go_wp2
  go_ret
  exact ⟨rfl,(Kept.refl _ _).alloc _⟩
 by_cases g8:(8:Int)<(n:Int)
 ·rw [show (decide (n ≠ 0) && decide (n ≤ 8)) = false by simp; omega]
  have g0':¬ (n:Int)<1:=by omega
  clear g0
  go_enter Tryz.func15,Tryz.ntmps15
  go_wp2
  go_ret
  exact ⟨rfl,(Kept.refl _ _).alloc _⟩
 rw [show (decide (n≠0) && decide (n≤8))=true by simp;omega]
 have g0':¬ (n:Int)<1:=by omega
 have g8':decide ((8:Int)<(n:Int))=false:=by simpa using g8
 clear g0
 obtain ⟨bb,hbb⟩:∃ bb,L.all chkB=bb:=⟨_,rfl⟩
 rw [hbb]
 have BB:=Lib.hid hbb
 clear hbb
 go_enter Tryz.func15,Tryz.ntmps15
 go_wp2
 obtain ⟨W0,hW0⟩:∃ W,w.alloc (.cells #[.int .i64 ho,.int .i64 fi,.slice ao n cap] 34)=W:=⟨_,rfl⟩
 have K0:=Lib.hid (show Kept (fun _=>False) w W0 by rw [← hW0];exact (Kept.refl _ _).alloc _)
 have BB2:=Lib.hid (show W0.cell? ⟨w.heap.size,2,none⟩=some (.slice ao n cap) by rw [← hW0];simp [go_sem])
 have KW0:Kept (fun _=>False) W0 W0:=Kept.refl _ _
 rw [hW0]
 clear hW0
 go_loopg [3] n (fun gh t wr=>∃ k:Nat,k+gh=n∧t = .int .i64 k∧Kept (fun _=>False) W0 wr∧∀ j,j<k→chkB (L.getD j default)=true)
 case atStart=>exact ⟨0,by omega,rfl,KW0,fun j hj=>absurd hj (Nat.not_lt_zero j)⟩
 case round=>
  obtain ⟨k,hk,rfl,hK,hno⟩:=hrel
  have NO:=Lib.hid hno
  have KW:=Lib.hid (tt K0.out hK)
  have b2:=hK.cell BB2.out (fun f=>f)
  have KR:=Lib.hid hK
  have hk1:k≤n:=by omega
  have JK:=Lib.hid hk
  clear hk hno hK
  by_cases hlt:k<n
  ·rcases HR.out with e0 | ⟨g, o, rfl, hc⟩
   ·have:=HN.out;rw [e0] at this;simp at this;omega
   obtain ⟨m,hm⟩:∃ m,L[k]? = some m:=⟨_,List.getElem?_eq_getElem (by rw [HN.out];exact hlt)⟩
   have hgd:L.getD k default=m:=by rw [List.getD_eq_getElem?_getD,hm];rfl
   obtain ⟨c0,c1',c2,c3,c4,c5,c6,c7⟩:=ReadsS.at (fun j u hu=>KW.out.cell (hc j u hu) (fun f=>f)) hm
   have f:=FIT.out m (List.mem_of_getElem? hm)
   have C:=Lib.hid (rcheck_all m f.1 f.2.1 f.2.2)
   have GD:=Lib.hid hgd
   have MEM:=Lib.hid (List.mem_of_getElem? hm)
   have i1:(0:Int)≤(k:Int):=by omega
   have i2:(k:Int)<(n:Int):=by omega
   clear hc hm f hgd
   unfold aggS at C
   cases hB:chkB m with
   | false=>
    rw [hB] at C
    have b0:bb=false:=by
     rw [← BB.out,List.all_eq_false]
     exact ⟨m,MEM.out,by rw [hB];simp⟩
    go_wp2_with (go_at_call 55;refine (C.out _).mono ?_;rintro e w3 ⟨rfl,k3⟩)
    go_ret
    exact ⟨by rw [b0];rfl,tt KW.out k3⟩
   | true=>
    rw [hB] at C
    go_wp2_with (go_at_call 55;refine (C.out _).mono ?_;rintro e w3 ⟨rfl,k3⟩)
    go_roundg (n - k - 1)
    case measure=>have:=JK.out;omega
    case rel=>
     refine ⟨k+1,by omega,by go_num,tt KR.out k3,fun j hj=>?_⟩
     by_cases e:j=k
     ·subst e;rw [GD.out];exact hB
     ·exact NO.out j (by omega)
  ·have e3 : ¬ (k : Int) < (n : Int) := by omega
   have b1:bb=true:=by
    rw [← BB.out,List.all_eq_true]
    intro m hm
    obtain ⟨j,hj⟩:=List.getElem?_of_mem hm
    have hjn:=(List.getElem?_eq_some_iff.1 hj).1
    rw [HN.out] at hjn
    have:=NO.out j (by omega)
    rw [List.getD_eq_getElem?_getD,hj] at this
    exact this
   subst b1
   go_wp2
   go_ret
   exact ⟨rfl,KW.out⟩

/-- What the document's model takes of a batch. -/
noncomputable def rookN (now:Int)(T:List Spn)(x:Int)(L:List Spn):List Spn:=match decide (x=0) with
 | true=>takeR now (rowR now T) L []
 | false=>[]
set_option maxHeartbeats 8000000 in
theorem rtake13 {w:World}{mp:Nat}{ro:Nat→Prop}{T L:List Spn}{ho fi now:Int}{v:Value}(R:RefAt w mp ro T)(hc:∀ m∈T,chkB m=true)(h1:0≤now)(h2:now≤4294967296)(hr:ReadsS w v L)(hl:L.length≤20)(hfit:∀ y∈L,Fits y)(hT:T.length≤1000000) :
  Calls Tryz.prog 13 #[.pointer (some ⟨mp,0,none⟩),.agg #[.int .i64 ho,.int .i64 fi,v],.int .i64 now] w fun e w'=>e = .returned (ackV (chkI ho fi L) ho fi L.length (rookN now T (chkI ho fi L) L).length)∧∃ ro',RefAt w' mp ro' (T++rookN now T (chkI ho fi L) L)∧(∀ q,ro' q→ro q∨w.heap.size≤q)∧Kept (fun k=>k=mp∨ro k) w w':=by
 have tt:∀ {a b c:World},Kept (fun _=>False) a b→Kept (fun _=>False) b c→Kept (fun _=>False) a c:=fun h k=>h.trans k (fun _ _ h=>h) (fun _ _ h=>h)
 have C:=Lib.hid (fun w' (K:Kept (fun _=>False) w w')=>rcheck15 (ho:=ho) (fi:=fi) (hr.keptF K) hl hfit)
 have TK:=Lib.hid (fun w' (K:Kept (fun _=>False) w w')=>rmtake_all now h1 h2 (R.keptF K) (hr.keptF K) hc hfit hT (by omega))
 have RM:=Lib.hid (fun h=>chkI_room (ho:=ho) (fi:=fi) (L:=L) h)
 have RR:=Lib.hid R
 have LL:=Lib.hid hl
 unfold rookN ackV
 obtain ⟨x,hx⟩:∃ x,chkI ho fi L=x:=⟨_,rfl⟩
 rw [hx] at C RM ⊢
 obtain ⟨ao,cap,ev,_⟩:=hr
 clear hx hl hfit R hT hc
 obtain ⟨ln,hln⟩:∃ ln,L.length=ln:=⟨_,rfl⟩
 rw [hln] at ev RM LL ⊢
 obtain ⟨g,hg⟩:∃ g,w.heap.size=g:=⟨_,rfl⟩
 have HG:=Lib.hid hg
 have NG:=Lib.hid (show ¬ g=mp∧¬ g+1=mp from ⟨fun e=>by have:=RR.out.lt;omega,fun e=>by have:=RR.out.lt;omega⟩)
 by_cases h0:x=0
 ·subst h0
  rw [show decide ((0:Int)=0)=true from rfl]
  have rm:=RM.out rfl
  clear RM
  obtain ⟨N,hN⟩:∃ N,takeR now (rowR now T) L []=N:=⟨_,rfl⟩
  rw [hN] at TK
  simp only [hN]
  clear hN hln
  obtain ⟨k,hk⟩:∃ k,N.length=k:=⟨_,rfl⟩
  rw [hk] at TK ⊢
  clear hk
  subst ev
  have l20:=LL.out
  go_enter Tryz.func13,Tryz.ntmps13
  go_wp2_with fail
  refine (C.out _ (((Kept.refl _ _).alloc _).alloc _)).mono ?_
  rintro e w1 ⟨rfl,k1⟩
  have r0:=k1.cell (a:=⟨w.heap.size+1,0,none⟩) (v:=.int .i64 0) (by go_simp) (fun f=>f)
  have r1:=k1.cell (a:=⟨w.heap.size+1,1,none⟩) (v:=.int .i64 0) (by go_simp) (fun f=>f)
  have r2:=k1.cell (a:=⟨w.heap.size+1,2,none⟩) (v:=.int .i64 0) (by go_simp) (fun f=>f)
  have f1:∀ j,w1.frozen? ⟨w.heap.size+1,j,none⟩=false:=fun j=>k1.frozen (by go_simp) (by first | go_simp | (simp;done) | (simp;omega)) (fun f=>f)
  have q0:=k1.cell (a:=⟨w.heap.size,0,none⟩) (v:=.int .i64 ho) (by go_simp) (fun f=>f)
  have q1:=k1.cell (a:=⟨w.heap.size,1,none⟩) (v:=.int .i64 fi) (by go_simp) (fun f=>f)
  have q2:=k1.cell (a:=⟨w.heap.size,2,none⟩) (v:=.slice ao ln cap) (by go_simp) (fun f=>f)
  have K1:=Lib.hid (tt (((Kept.refl _ _).alloc _).alloc _) k1)
  clear k1
  rw [hg] at r0 r1 r2 f1 q0 q1 q2
  try rw [hg]
  clear hg
  go_wp2_with fail
  refine (TK.out _ K1.out).mono ?_
  rintro e w2 ⟨rfl,ro',hR,ho2,k2⟩
  have ng:∀ b,g≤b→(b=g∨b=g+1)→¬ (b=mp∨ro b):=fun b hb e h=>by
   rcases h with h | h
   ·rcases e with rfl | rfl
    ·exact NG.out.1 h
    ·exact NG.out.2 h
   ·have:=RR.out.lo b h;have:=HG.out;omega
  have b1:g+1<w1.heap.size:=World.block_lt_of_cell? _ _ r0
  have nb1:¬ (g+1=mp∨ro (g+1)):=ng _ (by omega) (.inr rfl)
  have nb0:¬ (g=mp∨ro g):=ng _ (by omega) (.inl rfl)
  have r0:=k2.cell r0 nb1
  have r1:=k2.cell r1 nb1
  have r2:=k2.cell r2 nb1
  have q0:=k2.cell q0 nb0
  have q1:=k2.cell q1 nb0
  have q2:=k2.cell q2 nb0
  have f1:∀ j,w2.frozen? ⟨g+1,j,none⟩=false:=fun j=>k2.frozen (f1 j) b1 nb1
  have NR:=Lib.hid (show ¬ ro' (g+1) from fun h=>by
   rcases ho2 _ h with h | h
   ·have:=RR.out.lo _ h;have:=HG.out;omega
   ·omega)
  have K2:=Lib.hid (K1.out.trans k2 (T:=fun k=>k=mp∨ro k) (fun _ _ f=>f.elim) (fun _ _ h=>h))
  have O2:=Lib.hid (show ∀ q,ro' q→ro q∨w.heap.size≤q from fun q hq=>(ho2 q hq).imp (fun h=>h) (fun h=>Nat.le_trans K1.out.size h))
  have H2:=Lib.hid hR
  have e1:=rm.1
  have e2:=rm.2
  clear k2 ho2 hR ng nb0 nb1 b1 rm C TK
  go_wp2
  refine bodyPost_ret (v:=_) (by simp [results,Tryz.results13,go_sem,r0,r1,r2];try rfl) rfl ?_
  refine ⟨rfl,ro',?_,O2.out,?_⟩
  ·refine H2.out.kept (X:=fun b=>b=g+1) (Kept.setAt (fun _=>rfl) (Kept.setAt (fun _=>rfl) (Kept.setAt (fun _=>rfl) (Kept.refl _ _)))) (fun e=>NG.out.2 e.symm) (fun q hq e=>NR.out (e ▸ hq))
  ·have hg := HG.out
   subst hg
   exact Kept.setAt (fun h=>(lt_no h).elim) (Kept.setAt (fun h=>(lt_no h).elim) (Kept.setAt (fun h=>(lt_no h).elim) K2.out))
 ·rw [show decide (x = 0) = false by simpa using h0]
  have e0:(x != 0)=true:=by simpa using h0
  simp only [List.append_nil]
  clear TK RM HG hg NG
  subst ev
  go_enter Tryz.func13,Tryz.ntmps13
  go_wp2_with fail
  refine (C.out _ (((Kept.refl _ _).alloc _).alloc _)).mono ?_
  rintro e w1 ⟨rfl,k1⟩
  have r0:=k1.cell (a:=⟨w.heap.size+1,0,none⟩) (v:=.int .i64 0) (by go_simp) (fun f=>f)
  have r1:=k1.cell (a:=⟨w.heap.size+1,1,none⟩) (v:=.int .i64 0) (by go_simp) (fun f=>f)
  have r2:=k1.cell (a:=⟨w.heap.size+1,2,none⟩) (v:=.int .i64 0) (by go_simp) (fun f=>f)
  have f1:∀ j,w1.frozen? ⟨w.heap.size+1,j,none⟩=false:=fun j=>k1.frozen (by go_simp) (by first | go_simp | (simp;done) | (simp;omega)) (fun f=>f)
  have K1:=Lib.hid (tt (((Kept.refl _ _).alloc _).alloc _) k1)
  clear k1
  go_wp2
  refine bodyPost_ret (v:=_) (by simp [results,Tryz.results13,go_sem,r0,r1,r2];try rfl) rfl ?_
  have KF:∀ {W:World},Kept (fun _=>False) w W→Kept (fun _=>False) w (((W.setCell ⟨w.heap.size+1,0,none⟩ (.int .i64 0)).setCell ⟨w.heap.size+1,1,none⟩ (.int .i64 0)).setCell ⟨w.heap.size+1,2,none⟩ (.int .i64 0)):=fun K=>
   Kept.setAt (fun h=>lt_no h) (Kept.setAt (fun h=>lt_no h) (Kept.setAt (fun h=>lt_no h) K))
  exact ⟨rfl,ro,RR.out.keptF (KF K1.out),fun _ h=>.inl h,(KF K1.out).mono (fun _ _ f=>f.elim)⟩
end
end Go.Proofs.YthknocapablpaaaGreatDoor.Rf
namespace Go.Proofs.YthknocapablpaaaGreatDoor
/- Spans' keys stand in the order of trace and ID. -/
section
open Go.RowKit Go.Lib
set_option maxRecDepth 100000
/-- What bytes come to, the first one weighing most. -/
def valB:List UInt8→Nat
 | []=>0
 | b::t=>b.toNat * 256 ^ t.length+valB t
theorem valB_lt:∀ l,valB l<256 ^ l.length
 | []=>by simp [valB]
 | b::t=>by
  have h:=valB_lt t
  have hb:b.toNat≤255:=by have:=b.toNat_lt;omega
  have:b.toNat * 256 ^ t.length≤255 * 256 ^ t.length:=Nat.mul_le_mul_right _ hb
  rw [valB,List.length_cons,Nat.pow_succ]
  omega
theorem valB_append:∀ a b,valB (a++b)=valB a * 256 ^ b.length+valB b
 | [],b=>by simp [valB]
 | x::t,b=>by
  rw [List.cons_append,valB,valB,valB_append t b,List.length_append,Nat.pow_add,Nat.add_mul,Nat.mul_assoc,Nat.add_assoc]
theorem less_val:∀ (a b:List UInt8),a.length=b.length→(Op.bytesLess a b=true ↔ valB a<valB b)
 | [],[],_=>by simp [Op.bytesLess,valB]
 | x::s,y::t,h=>by
  have hl:s.length=t.length:=by simpa using h
  have ih:=less_val s t hl
  have h1:=valB_lt s
  have h2:=valB_lt t
  rw [← hl] at h2
  simp only [Op.bytesLess,valB,← hl,Bool.or_eq_true,Bool.and_eq_true,decide_eq_true_eq,beq_iff_eq,ih]
  generalize valB s=p at *
  generalize valB t=q at *
  generalize 256 ^ s.length=z at *
  rcases Nat.lt_trichotomy x.toNat y.toNat with c | c | c
  ·have k : x.toNat * z + z ≤ y.toNat * z := by rw [← Nat.succ_mul]; exact Nat.mul_le_mul_right _ c
   exact ⟨fun _=>by omega,fun _=>.inl (UInt8.lt_iff_toNat_lt.2 c)⟩
  ·have e : x = y := UInt8.toNat_inj.1 c
   subst e
   exact ⟨fun h=>by rcases h with h | h;exact absurd (UInt8.lt_iff_toNat_lt.1 h) (by omega);omega,fun h=>.inr ⟨rfl,by omega⟩⟩
  ·have k : y.toNat * z + z ≤ x.toNat * z := by rw [← Nat.succ_mul]; exact Nat.mul_le_mul_right _ c
   refine ⟨fun h=>?_,fun h=>by omega⟩
   rcases h with h | h
   ·have:=UInt8.lt_iff_toNat_lt.1 h;omega
   ·rw [h.1] at c;omega
theorem big_list {n:Int}(h:0≤n):(bigF n).toList=(bigL n).map fun k=>UInt8.ofNat k.toNat:=by
 unfold bigF
 rw [if_neg (by omega),strOfNums_toList]
 rfl
theorem u8_val (k:Int)(h0:0≤k)(h1:k<256):(UInt8.ofNat k.toNat).toNat=k.toNat:=by
 rw [UInt8.toNat_ofNat']
 exact Nat.mod_eq_of_lt (by omega)
theorem big_val8 {n:Int}(h:0≤n)(h1:n≤2147483647):(bigF n).toList.length=8∧valB (bigF n).toList=n.toNat:=by
 rw [big_list h]
 refine ⟨rfl,?_⟩
 unfold bigL
 simp only [List.map_cons,List.map_nil,valB,List.length_cons,List.length_nil]
 rw [u8_val (n / 72057594037927936 % 256) (by omega) (by omega),u8_val (n / 281474976710656 % 256) (by omega) (by omega),u8_val (n / 1099511627776 % 256) (by omega) (by omega),u8_val (n / 4294967296 % 256) (by omega) (by omega),u8_val (n / 16777216 % 256) (by omega) (by omega),u8_val (n / 65536 % 256) (by omega) (by omega),u8_val (n / 256 % 256) (by omega) (by omega),u8_val (n % 256) (by omega) (by omega)]
 rw [show n / 72057594037927936 % 256=0 by omega,show n / 281474976710656 % 256=0 by omega,show n / 1099511627776 % 256=0 by omega,show n / 4294967296 % 256=0 by omega]
 simp only [Nat.reducePow,Nat.reduceAdd,Int.toNat_zero,Nat.zero_mul,Nat.zero_add]
 omega
theorem toList_append (a b:ByteArray):(a++b).toList=a.toList++b.toList:=by
 rw [ByteArray.toList_eq,ByteArray.toList_eq,ByteArray.toList_eq,ByteArray.data_append,Array.toList_append]
theorem key_val {m:Spn}(h:chkB m=true):(keyS m).toList.length=17∧valB (keyS m).toList=115 * 256 ^ 16+m.tr.toNat * 256 ^ 8+m.id.toNat:=by
 have hn:=chk_num h
 have h1:=big_val8 (n:=m.tr) (by omega) (by omega)
 have h2:=big_val8 (n:=m.id) (by omega) (by omega)
 unfold keyS keyF
 rw [toList_append,toList_append,show sS.toList=[115] by rw [ByteArray.toList_eq];rfl]
 refine ⟨by rw [List.length_append,List.length_append,h1.1,h2.1];rfl,?_⟩
 rw [valB_append,valB_append,List.length_append,h1.1,h2.1,h1.2,h2.2]
 show (115 * 256 ^ 0+0) * 256 ^ (8+8)+(m.tr.toNat * 256 ^ 8+m.id.toNat)=_
 omega
theorem key_less {a b:Spn}(ha:chkB a=true)(hb:chkB b=true):sLt (keyS a) (keyS b)=true ↔ Rf.keyLt a b:=by
 have h1:=key_val ha
 have h2:=key_val hb
 have n1:=chk_num ha
 have n2:=chk_num hb
 unfold sLt
 rw [less_val _ _ (h1.1.trans h2.1.symm),h1.2,h2.2]
 unfold Rf.keyLt
 omega
theorem key_same {a b:Spn}(ha:chkB a=true)(hb:chkB b=true):keyS a=keyS b ↔ Rf.keyOf a=Rf.keyOf b:=by
 have h1:=key_val ha
 have h2:=key_val hb
 have n1:=chk_num ha
 have n2:=chk_num hb
 constructor
 ·intro h
  have e:valB (keyS a).toList=valB (keyS b).toList:=by rw [h]
  rw [h1.2,h2.2] at e
  unfold Rf.keyOf
  rw [Prod.mk.injEq]
  omega
 ·intro h
  unfold Rf.keyOf at h
  rw [Prod.mk.injEq] at h
  unfold keyS
  rw [h.1,h.2]
end
end Go.Proofs.YthknocapablpaaaGreatDoor
/- What is taken of a batch is what the document takes. Plain law. -/
namespace Go.Proofs.YthknocapablpaaaGreatDoor
theorem take_skip {now:Int}{f:ByteArray→Bool}{m:Spn}{t:List Spn}{K:List ByteArray}(h:(lateB m.st now || decide (keyS m∈K) || f (keyS m))=true):takeR now f (m::t) K=takeR now f t K:=by
 rw [takeR,h]
theorem take_take {now:Int}{f:ByteArray→Bool}{m:Spn}{t:List Spn}{K:List ByteArray}(h:(lateB m.st now || decide (keyS m∈K) || f (keyS m))=false):takeR now f (m::t) K=m::takeR now f t (K++[keyS m]):=by
 rw [takeR,h]
end Go.Proofs.YthknocapablpaaaGreatDoor
namespace Go.Proofs.YthknocapablpaaaGreatDoor.Rf
set_option maxRecDepth 100000
open Go.RowKit Go.Lib

theorem putR_nil (s:Spn):putR s []=[s]:=by unfold putR posR;simp
theorem putR_lt {s m:Spn}{t:List Spn}(h:keyLt m s):putR s (m::t)=m::putR s t:=by
 have e:posR s (m::t)=posR s t+1:=by rw [posR,if_pos h]
 have es:sameAt s (m::t) (posR s t+1) ↔ sameAt s t (posR s t):=by unfold sameAt;simp
 unfold putR
 rw [e,List.take_succ_cons]
 by_cases c:sameAt s t (posR s t)
 ·rw [if_pos (es.2 c),if_pos c];simp
 ·rw [if_neg (fun d=>c (es.1 d)),if_neg c];simp
theorem putR_eq {s m:Spn}{t:List Spn}(h:¬ keyLt m s)(hk:keyOf m=keyOf s):putR s (m::t)=s::t:=by
 have e:posR s (m::t)=0:=by rw [posR,if_neg h]
 unfold putR
 rw [e,if_pos ⟨m,rfl,hk⟩];simp
theorem putR_gt {s m:Spn}{t:List Spn}(h:¬ keyLt m s)(hk:¬ keyOf m=keyOf s):putR s (m::t)=s::m::t:=by
 have e:posR s (m::t)=0:=by rw [posR,if_neg h]
 unfold putR
 rw [e,if_neg (fun ⟨x,hx,hxk⟩=>by simp at hx;subst hx;exact hk hxk)];simp
theorem key_tri {x y:Spn}(h:¬ keyLt x y)(hk:¬ keyOf x=keyOf y):keyLt y x:=by
 unfold keyLt at *
 unfold keyOf at hk
 have h2:¬ (x.tr=y.tr∧x.id=y.id):=fun e=>hk (by rw [e.1,e.2])
 omega
theorem lt_trans' {x y z:Spn}(h:keyLt x y)(k:keyLt y z):keyLt x z:=by unfold keyLt at *;omega
theorem lt_key {x y z:Spn}(h:keyLt x y)(k:keyOf x=keyOf z):keyLt z y:=by
 unfold keyLt keyOf at *
 have h1:=congrArg Prod.fst k;have h2:=congrArg Prod.snd k
 simp only at h1 h2
 omega
theorem put_strict {s:Spn}:∀ {L:List Spn},StrictS L→StrictS (putR s L)
 | [],_=>by rw [putR_nil];exact List.pairwise_singleton _ _
 | m::t,h=>by
  obtain ⟨h1,h2⟩:=List.pairwise_cons.1 h
  by_cases c:keyLt m s
  ·rw [putR_lt c]
   refine List.pairwise_cons.2 ⟨fun x hx=>?_,put_strict h2⟩
   rcases putR_mem hx with rfl | hx
   ·exact c
   ·exact h1 x hx
  ·by_cases k : keyOf m = keyOf s
   ·rw [putR_eq c k]
    exact List.pairwise_cons.2 ⟨fun x hx=>lt_key (h1 x hx) k,h2⟩
   ·rw [putR_gt c k]
    refine List.pairwise_cons.2 ⟨fun x hx=>?_,h⟩
    have hs:=key_tri c k
    rcases List.mem_cons.1 hx with rfl | hx
    ·exact hs
    ·exact lt_trans' hs (h1 x hx)
theorem put_perm {s:Spn}:∀ {L:List Spn},keyOf s ∉ L.map keyOf→(putR s L).Perm (s::L)
 | [],_=>by rw [putR_nil]
 | m::t,h=>by
  simp only [List.map_cons,List.mem_cons,not_or] at h
  by_cases c:keyLt m s
  ·rw [putR_lt c]
   exact ((put_perm h.2).cons m).trans (List.Perm.swap s m t)
  ·rw [putR_gt c (fun e=>h.1 e.symm)]
theorem fold_strict:∀ (X:List Spn){a:List Spn},StrictS a→StrictS (X.foldl (fun a s=>putR s a) a)
 | [],_,h=>h
 | _::t,_,h=>fold_strict t (put_strict h)
theorem foldR_strict (X:List Spn):StrictS (foldR X):=fold_strict X List.Pairwise.nil
theorem fold_perm:∀ (X:List Spn){a:List Spn},((a++X).map keyOf).Nodup→(X.foldl (fun a s=>putR s a) a).Perm (a++X)
 | [],a,_=>by simp
 | x::t,a,h=>by
  rw [List.foldl_cons]
  have hx:keyOf x ∉ a.map keyOf:=fun hm=>by
   rw [List.map_append,List.nodup_append] at h
   exact h.2.2 _ hm _ (by simp) rfl
  have p:=put_perm hx
  have hp:((putR x a)++t).Perm (a++x::t):=(p.append_right t).trans (by rw [List.cons_append];exact (List.perm_middle).symm)
  exact (fold_perm t ((hp.map keyOf).nodup_iff.2 h)).trans hp
theorem foldR_perm {X:List Spn}(h:(X.map keyOf).Nodup):(foldR X).Perm X:=by
 have:=fold_perm X (a:=[]) (by simpa using h)
 simpa [foldR] using this

/-- Of a trace and an ID all but the last one have expired. -/
def Inv (now:Int)(T:List Spn):Prop:=T.Pairwise fun a b=>keyOf a=keyOf b→lateB a.st now=true
theorem late_mono {st now later:Int}(h:lateB st now=true)(hl:now≤later):lateB st later=true:=by
 unfold lateB at *
 rw [decide_eq_true_eq] at *
 omega
theorem Inv.later {now later:Int}{T:List Spn}(h:Inv now T)(hl:now≤later):Inv later T:=List.Pairwise.imp (fun h e=>late_mono (h e) hl) h
theorem Inv.once {now:Int}{T:List Spn}(h:Inv now T):((liveF now T).map keyOf).Nodup:=by
 rw [List.Nodup,List.pairwise_map]
 refine List.Pairwise.imp_of_mem (fun {a b} ha _ hab e=>?_) (List.Pairwise.filter _ h)
 have:=(List.mem_filter.1 ha).2
 rw [hab e] at this
 cases this
theorem Inv.mem {now:Int}{T:List Spn}(h:Inv now T){x:Spn}:x∈rowR now T ↔ x∈T∧lateB x.st now=false:=by
 unfold rowR
 rw [(foldR_perm h.once).mem_iff]
 unfold liveF
 rw [List.mem_filter]
 simp
theorem barT_iff {now:Int}{s:Spn}:∀ {L:List Spn},barT now s L=true ↔ ∃ x∈L,keyOf x=keyOf s∧lateB x.st now=false
 | []=>by simp [barT]
 | x::t=>by
  rw [barT,Bool.or_eq_true,barT_iff (L:=t)]
  simp
theorem barO_iff {s:Spn}:∀ {L:List Spn},barO s L=true ↔ ∃ x∈L,keyOf x=keyOf s
 | []=>by simp [barO]
 | x::t=>by
  rw [barO,Bool.or_eq_true,barO_iff (L:=t)]
  simp
/-- The last one of a key, if it lives, is the one that lives. -/
theorem last_live {now:Int}{T:List Spn}(h:Inv now T)(hc:∀ m∈T,chkB m=true){x:Spn}(hx:x∈T)(hl:lateB x.st now=false):lastT T (keyS x)=some x:=by
 refine (snoc_ind (P:=fun T=>Inv now T→(∀ m∈T,chkB m=true)→x∈T→lastT T (keyS x)=some x) (fun _ _ h=>by cases h) ?_ T) h hc hx
 intro T m ih h hc hx
 have h':=List.pairwise_append.1 h
 rw [lastT_snoc]
 by_cases e:keyS m=keyS x
 ·rw [if_pos e]
  rcases List.mem_append.1 hx with hx' | hx'
  ·have hk := (key_same (hc m (by simp)) (hc x hx)).1 e
   have:=h'.2.2 x hx' m (by simp) hk.symm
   rw [hl] at this
   cases this
  ·rw [List.mem_singleton.1 hx']
 ·rw [if_neg e]
  refine ih h'.1 (fun y hy=>hc y (by simp [hy])) ?_
  rcases List.mem_append.1 hx with hx' | hx'
  ·exact hx'
  ·exact absurd (by rw [List.mem_singleton.1 hx']) e
theorem old_bar {now:Int}{T:List Spn}(h:Inv now T)(hc:∀ m∈T,chkB m=true){m:Spn}(hm:chkB m=true):oldT now T (keyS m)=barT now m (rowR now T):=by
 rw [Bool.eq_iff_iff,barT_iff]
 constructor
 ·intro ho
  unfold oldT at ho
  split at ho
  ·rename_i x hx
   have hk:=lastT_key hx
   have hl:lateB x.st now=false:=by simpa using ho
   exact ⟨x,h.mem.2 ⟨hk.2,hl⟩,(key_same (hc x hk.2) hm).1 hk.1,hl⟩
  ·cases ho
 ·rintro ⟨x, hx, hk, hl⟩
  have hx':=(h.mem.1 hx).1
  have e:=(key_same (hc x hx') hm).2 hk
  unfold oldT
  rw [← e,last_live h hc hx' hl]
  simp [hl]
theorem take_same {now:Int}{f:ByteArray→Bool}{there:List Spn}:∀ (L out:List Spn),(∀ m∈L,chkB m=true)→(∀ m∈out,chkB m=true)→(∀ m∈L,f (keyS m)=barT now m there)→takeR now there L out=out++Go.Proofs.YthknocapablpaaaGreatDoor.takeR now f L (out.map keyS)
 | [],out,_,_,_=>by simp [takeR,Go.Proofs.YthknocapablpaaaGreatDoor.takeR,Go.Proofs.YthknocapablpaaaGreatDoor.takeR]
 | m::t,out,hL,hO,hf=>by
  have hm:=hL m (by simp)
  have hbo:decide (keyS m∈out.map keyS)=barO m out:=by
   rw [Bool.eq_iff_iff,decide_eq_true_eq,barO_iff,List.mem_map]
   constructor
   ·rintro ⟨x,hx,e⟩;exact ⟨x,hx,(key_same (hO x hx) hm).1 e⟩
   ·rintro ⟨x,hx,e⟩;exact ⟨x,hx,(key_same (hO x hx) hm).2 e⟩
  have ho:okR now there out m = !(lateB m.st now || decide (keyS m∈out.map keyS) || f (keyS m)):=by
   unfold okR
   rw [hbo,hf m (by simp),hm]
   cases lateB m.st now <;> cases barT now m there <;> cases barO m out <;> rfl
  unfold takeR
  rw [ho]
  cases hb:lateB m.st now || decide (keyS m∈out.map keyS) || f (keyS m) with
  | true=>
   rw [take_skip hb]
   simp only [Bool.not_true,Bool.false_eq_true,if_false]
   exact take_same t out (fun x hx=>hL x (by simp [hx])) hO (fun x hx=>hf x (by simp [hx]))
  | false=>
   rw [take_take hb]
   simp only [Bool.not_false,if_true]
   rw [take_same t (out++[m]) (fun x hx=>hL x (by simp [hx])) (fun x hx=>by
    rcases List.mem_append.1 hx with hx | hx
    ·exact hO x hx
    ·rw [List.mem_singleton.1 hx];exact hm) (fun x hx=>hf x (by simp [hx]))]
   simp
/-- What the program takes is what the document takes. -/
theorem took_same {now ho fi:Int}{T L:List Spn}(h:Inv now T)(hc:∀ m∈T,chkB m=true):tookN now T (chkI ho fi L) L=rookN now T (chkI ho fi L) L:=by
 unfold tookN rookN
 cases hx:decide (chkI ho fi L=0) with
 | true=>
  have hL:=chkI_all (of_decide_eq_true hx)
  have:=take_same (now:=now) L [] hL (fun _ h=>by cases h) (f:=oldT now T) (fun m hm=>old_bar h hc (hL m hm))
  simpa using this.symm
 | false=>rfl
theorem take_keys {now:Int}{f:ByteArray→Bool}:∀ (L:List Spn)(K:List ByteArray),(Go.Proofs.YthknocapablpaaaGreatDoor.takeR now f L K).Pairwise (fun a b=>keyS a≠keyS b)∧∀ m∈Go.Proofs.YthknocapablpaaaGreatDoor.takeR now f L K,keyS m ∉ K∧f (keyS m)=false
 | [],K=>⟨by unfold Go.Proofs.YthknocapablpaaaGreatDoor.takeR;simp,fun m h=>by unfold Go.Proofs.YthknocapablpaaaGreatDoor.takeR at h;simp at h⟩
 | m::t,K=>by
  cases hb:lateB m.st now || decide (keyS m∈K) || f (keyS m) with
  | true=>rw [take_skip hb];exact take_keys t K
  | false=>
   rw [take_take hb]
   have ih:=take_keys (now:=now) (f:=f) t (K++[keyS m])
   simp only [Bool.or_eq_false_iff,decide_eq_false_iff_not] at hb
   refine ⟨List.pairwise_cons.2 ⟨fun x hx e=>(ih.2 x hx).1 (by simp [e]),ih.1⟩,fun x hx=>?_⟩
   rcases List.mem_cons.1 hx with rfl | hx
   ·exact ⟨hb.1.2,hb.2⟩
   ·have := ih.2 x hx
    exact ⟨fun e=>this.1 (by simp [e]),this.2⟩
theorem Inv.took {now ho fi:Int}{T L:List Spn}(h:Inv now T)(hc:∀ m∈T,chkB m=true):Inv now (T++tookN now T (chkI ho fi L) L):=by
 unfold tookN
 split
 ·rename_i hx
  have hL:=chkI_all (of_decide_eq_true hx)
  have hk:=take_keys (now:=now) (f:=oldT now T) L []
  refine List.pairwise_append.2 ⟨h,?_,fun a ha b hb e=>?_⟩
  ·refine List.Pairwise.imp_of_mem (fun {a b} ha hb hab e=>absurd ((key_same (hL a (take_sub a ha).1) (hL b (take_sub b hb).1)).2 e) hab) hk.1
  ·have hB := hL b (take_sub b hb).1
   have ho:=(hk.2 b hb).2
   rw [old_bar h hc hB] at ho
   cases hl:lateB a.st now with
   | true=>rfl
   | false=>
    have:barT now b (rowR now T)=true:=barT_iff.2 ⟨a,h.mem.2 ⟨ha,hl⟩,e,hl⟩
    rw [ho] at this
    cases this
 ·rw [List.append_nil];exact h
end Go.Proofs.YthknocapablpaaaGreatDoor.Rf
namespace Go.Proofs.YthknocapablpaaaGreatDoor
/- All spans of a store that have not expired. -/
section
open Go.RowKit Go.Lib
set_option maxRecDepth 100000
theorem addF_sub {out:List Cel}{x c:Cel}(h:c∈Mg.addF out x):c∈out∨c=x:=by
 unfold Mg.addF at h
 split at h
 ·rcases List.mem_append.1 h with h | h
  ·exact .inl h
  ·exact .inr (by simpa using h)
 ·exact .inl h
theorem firstF_sub {C:List Cel}{c:Cel}(h:c∈Mg.firstF C):c∈C:=by
 have:∀ (l out:List Cel),c∈l.foldl Mg.addF out→c∈out∨c∈l:=by
  intro l
  induction l with
  | nil=>intro out h;exact .inl h
  | cons x t ih=>
   intro out h
   rcases ih _ h with h | h
   ·rcases addF_sub h with h | h
    ·exact .inl h
    ·exact .inr (by simp [h])
   ·exact .inr (by simp [h])
 rcases this C [] h with h | h
 ·cases h
 ·exact h
/-- Which spans the cells have that are told of these. -/
def RowIs (T:List Spn)(M:List (Option Spn)):Prop:=∃ C:List Cel,SortedC C∧C.Perm (seqL 0 (cellsL T))∧M.length=(Mg.firstF C).length∧∀ (i:Nat)(c:Cel),(Mg.firstF C)[i]? = some c→∃ o,M[i]? = some o∧CellIs c o
section
variable {B:Nat}{S:Sto}{own:Nat→Prop}{w:World}{n t:Nat}{T:List Spn}
theorem HoldT.row (h:HoldT B S own w n t T):∃ M,RowIs T M:=by
 obtain ⟨F,ps,A,P⟩:=h.at_
 obtain ⟨M,h1,h2⟩:=row_is (R:=Mg.firstF (allP ps)) fun c hc=>cell_is h.chk (P.subset (firstF_sub hc))
 exact ⟨M,allP ps,A.srt,P,h1,h2⟩
set_option maxHeartbeats 4000000 in
theorem live17 {M:List (Option Spn)}{now:Int}(h:HoldT B S own w n t T)(hM:RowIs T M)(hT:T.length≤500)(hnow:now≤9223372036854775807) :
  Calls Tryz.prog 17 #[.pointer (some ⟨S.s,0,none⟩),.int .i64 now] w fun e w'=>(∃ v,e = .returned v∧w'.ownsRow w.heap.size 96 8 v (liveM now M).length (cellsS (liveM now M)))∧Kept (fun _=>False) w w':=by
 obtain ⟨F,ps,A,P⟩:=h.at_
 obtain ⟨C,c1,c2,c3,c4⟩:=hM
 obtain rfl:C=allP ps:=perm_sorted c1 A.srt (c2.trans P.symm)
 have hl:(allP ps).length≤1000:=by rw [P.length_eq,seqL_length,cellsL_length];omega
 have SR:=Lib.hid (srange_any A hl (fun c hc=>may_all h.chk (P.subset hc)))
 have FL:=Lib.hid (Nat.le_trans (Mg.firstF_length (allP ps)) hl)
 have HM:=Lib.hid c4
 have HL:=Lib.hid c3
 obtain ⟨R,hR⟩:∃ R,Mg.firstF (allP ps)=R:=⟨_,rfl⟩
 rw [hR] at SR FL HM HL
 clear hR c1 c2 c3 c4 h P A hl
 go_enter Tryz.func17,Tryz.ntmps17
 go_wp2_with fail
 refine SR.out.mono ?_
 rintro e w1 ⟨⟨u,rfl,hu⟩,k1⟩
 have CR:∃ ao cap,u = .slice ao R.length cap∧CelsR w1 ao R:=by
  rcases row_form hu with ⟨e,e0⟩ | ⟨g,cap,e,_,_,_,f⟩
  ·have : R = [] := List.eq_nil_of_length_eq_zero e0
   subst this
   exact ⟨none,0,e,.inl rfl⟩
  ·exact ⟨_,cap,e,.inr ⟨g,0,rfl,celat_of R 0 (fun j u hu=>by rw [Nat.zero_add];exact f j u hu)⟩⟩
 obtain ⟨ao,cap,rfl,CR⟩:=CR
 have LV:=Lib.hid (live_any (cap:=cap) now CR HM.out HL.out FL.out hnow)
 have K1:=Lib.hid k1
 have n1:=Lib.hid k1.size
 clear CR hu k1
 go_wp2_with fail
 refine LV.out.mono ?_
 rintro e w2 ⟨⟨v,rfl,hv⟩,k2⟩
 go_wp2
 go_ret
 exact ⟨⟨v,rfl,own_base hv n1.out⟩,K1.out.trans k2 (fun _ _ f=>f) (fun _ _ f=>f)⟩
end
end
end Go.Proofs.YthknocapablpaaaGreatDoor
