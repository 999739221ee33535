/- A part of the proof. -/
import Derived.Laws.Closers25b
import Derived.Laws.BytesArg
import Derived.Lib.AppendStr
import Derived.Test.YthknocapablpaaaGreatDoorAi30
namespace Go.Proofs.YthknocapablpaaaGreatDoor
/- sums: of, sum, More, Sum. -/
section
open Go.RowKit
set_option maxRecDepth 100000

theorem results_cell1 {fn:Func}{p:Tmp}{ty:TypeId}(h:fn.results=#[.cell p ty])(tmps:Array Value)(P:Program)(w:World) :
  (results fn tmps).run P w=((asAddr (tmps.getD p undef)).run P w).andThen fun a w₁=>(loadVar ty a).run P w₁:=by
 simp only [results,h]
 simp [Sem.run_bind,Result.andThen]

set_option maxHeartbeats 4000000 in
theorem of1_any (w:World):Calls Tryz.prog 359 #[.int .u32 1] w fun e w'=>e = .returned (.agg #[.int .i64 1,.int .i64 0])∧Kept (fun _=>False) w w':=by
 go_enter Tryz.func359,Tryz.ntmps359
 go_wp2_with fail
 have hb:bits .and .u32 1 65535=1:=by decide +kernel
 refine bodyPost_ret_by (v:=.agg #[.int .i64 1,.int .i64 0]) ?_ rfl ⟨rfl,(Kept.refl _ _).alloc _⟩
 rw [results_cell1 rfl,hb]
 go_simp
 have e1:wrap64 1=1:=by unfold wrap64;omega
 rw [e1]
 decide
set_option maxHeartbeats 4000000 in
theorem sum_any {w:World}{p:Nat}{a b:Int}(P:PartsAt w p a b):Calls Tryz.prog 362 #[.pointer (some ⟨p,0,none⟩)] w fun e w'=>(∃ x:Int,0≤x∧x<4294967296∧e = .returned (.int .u32 x))∧Kept (fun _=>False) w w':=by
 obtain ⟨c0,c1,f0,f1,a0,a1,b0,b1⟩:=P
 have mixed:Tryz.prog.follows .mixedOrders=true:=by kernel_rfl
 go_enter Tryz.func362,Tryz.ntmps362
 go_wp2_with fail
 go_region_o
 all_goals go_wp2
 all_goals
  go_ret
  obtain ⟨h0,h1⟩:=bits_within .or .u32 (b * 65536) a
  have e0:IntKind.u32.min=0:=rfl
  have e1:IntKind.u32.max=4294967295:=rfl
  rw [e0] at h0
  rw [e1] at h1
  exact ⟨⟨_,h0,by omega,rfl⟩,(Kept.refl _ _).drew⟩
set_option maxHeartbeats 4000000 in
theorem each_any {w:World}{p:Nat}{s:ByteArray}(hs:s.size≤1000000)(P:∃ a b,PartsAt w p a b):Calls Tryz.prog 360 #[.string s,.func (.func 361) #[.pointer (some ⟨p,0,none⟩)] #[]] w fun e w'=>e = .returned (.tuple #[])∧(∃ a' b',PartsAt w' p a' b')∧Kept (fun q=>q=p) w w':=by
 obtain ⟨n,hn⟩:∃ n,s.size=n:=⟨_,rfl⟩
 have HN:=Lib.hid hn
 have PP:=Lib.hid P
 rw [hn] at hs
 have HL:=Lib.hid hs
 clear P
 go_enter Tryz.func360,Tryz.ntmps360
 go_wp2_with fail
 clear hn
 go_loopg [7] n (fun gh t7 wr=>∃ i:Nat,i+gh=n∧t7 = .int .i64 i∧(∃ a' b',PartsAt wr p a' b')∧Kept (fun q=>q=p) w wr)
 case atStart=>exact ⟨0,by omega,rfl,PP.out,Kept.refl _ _⟩
 case round=>
  obtain ⟨i,hgh,rfl,hp,hk⟩:=hrel
  cases gk with
  | zero=>
   have hi:i=n:=by omega
   subst hi
   go_wp2_with fail
   exact bodyPost_end (results_none rfl _ _ _) rfl ⟨rfl,hp,hk⟩
  | succ gk=>
   have i1:((i:Nat):Int)<(n:Int):=by omega
   have i2:(0:Int)≤(i:Int):=by omega
   have HP:=Lib.hid hp
   have GH:=Lib.hid hgh
   have HK:=Lib.hid hk
   have i5:(i:Int)<(s.size:Int):=by have:=HN.out;omega
   have i6:i<s.size:=by omega
   have i4:wrap64 ((i:Int)+1)=((i+1:Nat):Int):=by unfold wrap64;omega
   have U8:=Lib.hid (fun (b:UInt8)=>(by have:=b.toNat_lt;omega:((b.toNat:Nat):Int)≤255))
   obtain ⟨a',b',hP⟩:=HP.out
   have HP2:=Lib.hid hP
   clear hp hgh hk hP HP
   go_wp2_with (go_at_call 361;refine (add_any HP2.out (Int.natCast_nonneg _) (U8.out _)).mono ?_;rintro e w5 ⟨rfl,hp5,k5⟩)
   go_roundg gk
   case measure=>omega
   case rel=>exact ⟨i+1,by have:=GH.out;omega,by simp,hp5,HK.out.trans k5 (fun _ _ f=>f) (fun _ _ f=>f)⟩
set_option maxHeartbeats 4000000 in
theorem more_any (s:ByteArray)(w:World)(hs:s.size≤1000000):Calls Tryz.prog 323 #[.int .u32 1,.string s] w fun e w'=>(∃ x:Int,0≤x∧x<4294967296∧e = .returned (.int .u32 x))∧Kept (fun _=>False) w w':=by
 have HS:=Lib.hid hs
 go_enter Tryz.func323,Tryz.ntmps323
 go_wp2_with (first
  | (go_at_call 359;refine (of1_any _).mono ?_;rintro e w4 ⟨rfl,kk⟩)
  | (go_at_call 360;refine (each_any (p:=w4.heap.size) HS.out ⟨1,0,by simp [go_sem],by simp [go_sem],by simp [go_sem],by simp [go_sem],by omega,by omega,by omega,by omega⟩).mono ?_;rintro e w5 ⟨rfl,⟨a',b',hp⟩,k5⟩)
  | (go_at_call 362;refine (sum_any hp).mono ?_;rintro e w6 ⟨⟨x,h0,h1,rfl⟩,k6⟩))
 go_ret
 exact ⟨⟨x,h0,h1,rfl⟩,((kk.alloc _).trans k5 (T:=fun _=>False) (fun _ _ f=>f) (fun b hb e=>by subst e;have:=kk.size;omega)).trans k6 (fun _ _ f=>f) (fun _ _ f=>f)⟩
theorem sums_any (s:ByteArray)(w:World)(hs:s.size≤1000000):Calls Tryz.prog 252 #[.string s] w fun e w'=>(∃ x:Int,0≤x∧x<4294967296∧e = .returned (.int .u32 x))∧Kept (fun _=>False) w w':=by
 have M:=Lib.hid (more_any s w hs)
 go_enter Tryz.func252,Tryz.ntmps252
 go_wp2_with (go_at_call 323;refine M.out.mono ?_;rintro e w6 ⟨⟨x,h0,h1,rfl⟩,k6⟩)
 go_ret
 exact ⟨⟨x,h0,h1,rfl⟩,k6⟩
end
/- sums.Bytes: four bytes. -/
section
open Go.RowKit
set_option maxRecDepth 100000

theorem info_5:∃ i,Tryz.prog.info? 5=some i∧i.zero=some (.int .u8 0)∧i.size=1∧i.bytes=1:=⟨_,rfl,rfl,rfl,rfl⟩
/-- A row of bytes, as a text. -/
theorem conv_row {w:World}{base:Nat}{v:Value}{n:Nat}{l:List Int}(h:w.ownsRow base 5 1 v n (l.map (Value.int .u8)))(hn:l.length=n)(h0:0<n):(convert 48 9 v).run Tryz.prog w = .ok (.string (strOfNums l)) w:=by
 rcases row_form h with ⟨_,e⟩ | ⟨g,cap,rfl,_,_,_,hc⟩
 ·omega
 ·exact run_convert_bytes_arg _ 48 5 Tryz.underlying48 Tryz.underlying5 g 0 n cap l hn (fun i hi=>by
   rw [Nat.zero_add]
   refine hc i _ ?_
   simp [hn,hi]) 9 Tryz.underlying9
/-- One byte more, whatever it is. -/
theorem app_byte {W w0:World}{v:Value}{n:Nat}{l:List Int}(h:W.ownsRow w0.heap.size 5 1 v n (l.map (Value.int .u8)))(hn:n≤1000000)(K:Kept (fun _=>False) w0 W):∃ p:Int→Value × World,∀ b:Int,
  (Builtin.append_ #[48,48] 48 #[v,.slice (some ⟨W.heap.size,0,none⟩) 1 1]).run Tryz.prog (W.alloc (.cells #[.int .u8 b] 5)) = .ok (p b).1 (p b).2∧(p b).2.ownsRow w0.heap.size 5 1 (p b).1 (n+1) ((l++[b]).map (Value.int .u8))∧Kept (fun _=>False) w0 (p b).2:=by
 obtain ⟨i0,hi0,z0,s0,b0⟩:=info_5
 have H:∀ b:Int,∃ p:Value × World,(Builtin.append_ #[48,48] 48 #[v,.slice (some ⟨W.heap.size,0,none⟩) 1 1]).run Tryz.prog (W.alloc (.cells #[.int .u8 b] 5)) = .ok p.1 p.2∧p.2.ownsRow w0.heap.size 5 1 p.1 (n+1) ((l++[b]).map (Value.int .u8))∧Kept (fun _=>False) w0 p.2:=by
  intro b
  have K1:Kept (fun _=>False) W (W.alloc (.cells #[.int .u8 b] 5)):=(Kept.refl _ _).alloc _
  have OW:=ownr_kept h K1 (fun _ _ f=>f)
  have ks:=K.size
  obtain ⟨v',w5,hrun,hown,hgrow,_⟩:=run_append_own_at (P:=Tryz.prog) (W.alloc (.cells #[.int .u8 b] 5)) w0.heap.size 48 48 5 i0 _ 1 1 Tryz.underlying48 hi0 z0 s0 b0 rfl (by decide) v n _ OW ⟨W.heap.size,0,none⟩ 1 1 [.int .u8 b] rfl (fun j u hj=>by
   rw [add_mid]
   have hj0:j=0:=by
    have:=(List.getElem?_eq_some_iff.1 hj).1
    simp at this
    exact this
   subst hj0
   simp at hj
   subst hj
   simp [go_sem]) (by simp [Value.oneCell']) (by unfold maxLen;omega) (by omega) (by simp;omega)
  refine ⟨(v',w5),hrun,?_,(K.alloc _).grown hgrow (fun k hk hlt=>by have:=ownr_from OW hk;omega)⟩
  rw [List.map_append]
  exact hown
 exact ⟨fun b=>Classical.choose (H b),fun b=>Classical.choose_spec (H b)⟩
set_option maxHeartbeats 4000000 in
theorem bytes_any (x:Int)(h0:0≤x)(h1:x<4294967296)(w:World):Calls Tryz.prog 251 #[.int .u32 x] w fun e w'=>(∃ s:ByteArray,s.size=4∧e = .returned (.string s))∧Kept (fun _=>False) w w':=by
 obtain ⟨i0,hi0,z0,s0,b0⟩:=info_5
 go_enter Tryz.func251,Tryz.ntmps251
 go_wp2_with fail
 go_loopg [3,4] 4 (fun gh t3 t4 wr=>∃ (i:Nat) (l:List Int),i+gh=4∧l.length=i∧t4 = .int .i64 (24 - 8 * (i:Int))∧wr.ownsRow w.heap.size 5 1 t3 i (l.map (Value.int .u8))∧Kept (fun _=>False) w wr)
 case atStart=>exact ⟨0,[],rfl,rfl,rfl,World.ownsRow_nil _ _ _ _,Kept.refl _ _⟩
 case round=>
  obtain ⟨i,l,hgh,hl,rfl,hown,hk⟩:=hrel
  have hi:i=0∨i=1∨i=2∨i=3∨i=4:=by omega
  have OW:=Lib.hid hown
  have HK:=Lib.hid hk
  have HL:=Lib.hid hl
  clear hown hk hl
  obtain ⟨p,hp⟩:=app_byte OW.out (by omega) HK.out
  have hrun:=fun b=>(hp b).1
  have HP:=Lib.hid (fun b=>(hp b).2)
  clear hp
  rcases hi with rfl | rfl | rfl | rfl | rfl
  ·go_wp2_with (at_builtin; refine Lib.wpList_append_run _ rfl _ _ _ _ rfl _ _ rfl rfl _ _ (hrun _) ?_)
   go_roundg 3
   case measure=>omega
   case rel=>exact ⟨1,_,rfl,by rw [List.length_append,HL.out];rfl,rfl,(HP.out _).1,(HP.out _).2⟩
  ·go_wp2_with (at_builtin; refine Lib.wpList_append_run _ rfl _ _ _ _ rfl _ _ rfl rfl _ _ (hrun _) ?_)
   go_roundg 2
   case measure=>omega
   case rel=>exact ⟨2,_,rfl,by rw [List.length_append,HL.out];rfl,rfl,(HP.out _).1,(HP.out _).2⟩
  ·go_wp2_with (at_builtin; refine Lib.wpList_append_run _ rfl _ _ _ _ rfl _ _ rfl rfl _ _ (hrun _) ?_)
   go_roundg 1
   case measure=>omega
   case rel=>exact ⟨3,_,rfl,by rw [List.length_append,HL.out];rfl,rfl,(HP.out _).1,(HP.out _).2⟩
  ·go_wp2_with (at_builtin; refine Lib.wpList_append_run _ rfl _ _ _ _ rfl _ _ rfl rfl _ _ (hrun _) ?_)
   go_roundg 0
   case measure=>omega
   case rel=>exact ⟨4,_,rfl,by rw [List.length_append,HL.out];rfl,rfl,(HP.out _).1,(HP.out _).2⟩
  ·have cv := conv_row OW.out HL.out (by omega)
   go_wp2_with fail
   go_ret
   exact ⟨⟨_,by rw [strOfNums_size,HL.out],rfl⟩,HK.out⟩
end
/- frames.Frame. -/
section
open Go.RowKit
set_option maxRecDepth 100000

/-- A row of n bytes of our own. -/
def OwnB (w0 w:World)(v:Value)(n:Nat):Prop:=∃ l:List Int,l.length=n∧w.ownsRow w0.heap.size 5 1 v n (l.map (Value.int .u8))∧Kept (fun _=>False) w0 w
theorem OwnB.kept {w0 w w':World}{v:Value}{n:Nat}(h:OwnB w0 w v n)(K:Kept (fun _=>False) w w'):OwnB w0 w' v n:=by
 obtain ⟨l,h1,h2,h3⟩:=h
 exact ⟨l,h1,ownr_kept h2 K (fun _ _ f=>f),h3.trans K (fun _ _ f=>f) (fun _ _ f=>f)⟩
/-- Three bytes more. -/
theorem app_three {w0 W:World}{v:Value}{n:Nat}(h:OwnB w0 W v n)(hn:n≤1000000)(a b c:Int):∃ v' w',
  (Builtin.append_ #[48,48] 48 #[v,.slice (some ⟨W.heap.size,0,none⟩) 3 3]).run Tryz.prog (W.alloc (.cells #[.int .u8 a,.int .u8 b,.int .u8 c] 5)) = .ok v' w'∧OwnB w0 w' v' (n+3):=by
 obtain ⟨i0,hi0,z0,s0,b0⟩:=info_5
 obtain ⟨l,h1,h2,K⟩:=h
 have K1:Kept (fun _=>False) W (W.alloc (.cells #[.int .u8 a,.int .u8 b,.int .u8 c] 5)):=(Kept.refl _ _).alloc _
 have OW:=ownr_kept h2 K1 (fun _ _ f=>f)
 have ks:=K.size
 obtain ⟨v',w5,hrun,hown,hgrow,_⟩:=run_append_own_at (P:=Tryz.prog) (W.alloc (.cells #[.int .u8 a,.int .u8 b,.int .u8 c] 5)) w0.heap.size 48 48 5 i0 _ 1 1 Tryz.underlying48 hi0 z0 s0 b0 rfl (by decide) v n _ OW ⟨W.heap.size,0,none⟩ 3 3 [.int .u8 a,.int .u8 b,.int .u8 c] rfl (fun j u hj=>by
  rw [add_mid]
  have hj0:j=0∨j=1∨j=2:=by
   have:=(List.getElem?_eq_some_iff.1 hj).1
   simp at this
   omega
  rcases hj0 with rfl | rfl | rfl <;> (simp at hj;subst hj;simp [go_sem])) (by simp [Value.oneCell']) (by unfold maxLen;omega) (by omega) (by simp;omega)
 refine ⟨v',w5,hrun,l++[a,b,c],by simp [h1],?_,(K.alloc _).grown hgrow (fun k hk hlt=>by have:=ownr_from OW hk;omega)⟩
 rw [List.map_append]
 exact hown
theorem app_str {w0 W:World}{v:Value}{n:Nat}(h:OwnB w0 W v n)(s:ByteArray)(hn:n≤1000000)(hs:s.size≤1000000):∃ v' w',
  (Builtin.append_ #[48,9] 48 #[v,.string s]).run Tryz.prog W = .ok v' w'∧OwnB w0 w' v' (n+s.size):=by
 obtain ⟨i0,hi0,z0,s0,b0⟩:=info_5
 obtain ⟨l,h1,h2,K⟩:=h
 obtain ⟨v',w',hrun,hown,hgrow,_⟩:=Lib.run_append_own_string (P:=Tryz.prog) W w0.heap.size 48 9 48 5 i0 Tryz.underlying48 Tryz.underlying9 hi0 z0 s0 b0 v n _ h2 s (by unfold maxLen;omega) (by omega) K.size
 refine ⟨v',w',hrun,l++s.data.toList.map (fun b=>(b.toNat:Int)),?_,?_,K.grown hgrow (fun k hk hlt=>by have:=ownr_from h2 hk;omega)⟩
 ·rw [List.length_append, h1, List.length_map]
  rfl
 ·rw [List.map_append, List.map_map]
  exact hown
theorem app_one {w0 W:World}{v:Value}{n:Nat}(h:OwnB w0 W v n)(hn:n≤1000000)(b:Int):∃ v' w',
  (Builtin.append_ #[48,48] 48 #[v,.slice (some ⟨W.heap.size,0,none⟩) 1 1]).run Tryz.prog (W.alloc (.cells #[.int .u8 b] 5)) = .ok v' w'∧OwnB w0 w' v' (n+1):=by
 obtain ⟨l,h1,h2,K⟩:=h
 obtain ⟨p,hp⟩:=app_byte h2 hn K
 exact ⟨_,_,(hp b).1,l++[b],by simp [h1],(hp b).2.1,(hp b).2.2⟩
theorem conv_own {w0 W:World}{v:Value}{n:Nat}(h:OwnB w0 W v n)(hn:0<n):∃ s:ByteArray,s.size=n∧(convert 48 9 v).run Tryz.prog W = .ok (.string s) W∧Kept (fun _=>False) w0 W:=by
 obtain ⟨l,h1,h2,K⟩:=h
 exact ⟨_,by rw [strOfNums_size,h1],conv_row h2 h1 hn,K⟩
set_option maxHeartbeats 4000000 in
theorem frame_any (s:ByteArray)(hs:s.size≤16384)(w:World):Calls Tryz.prog 169 #[.string s] w fun e w'=>(∃ f:ByteArray,f.size=8+s.size∧e = .returned (.tuple #[.string f,.int .i64 0]))∧Kept (fun _=>False) w w':=by
 obtain ⟨i0,hi0,z0,s0,b0⟩:=info_5
 obtain ⟨n,hn⟩:∃ n,s.size=n:=⟨_,rfl⟩
 obtain ⟨w1,hmk,own1,g1⟩:=run_makeSlice_owned (P:=Tryz.prog) w w.heap.size 48 5 i0 _ 1 Tryz.underlying48 hi0 z0 s0 .i64 .i64 (8+n) (by omega) (by rw [b0];omega) (by unfold maxLen;omega) (Nat.le_refl _)
 have O1:OwnB w w1 (.slice (some ⟨w.heap.size,0,none⟩) 0 (8+n)) 0:=⟨[],rfl,own1,(grown_kept g1).mono (fun _ _ f=>by cases f)⟩
 have f1:¬ ((n:Int) > 16384):=by omega
 have f2:IntKind.i64.wrap (8+(n:Int))=((8+n:Nat):Int):=by rw [IntKind.wrap_i64];omega
 have SS:=Lib.hid (sums_any s)
 rw [← hn] at hmk f1 f2 O1
 have OO:=Lib.hid O1
 rw [show ((8+s.size:Nat):Int)=8+(s.size:Int) by omega] at hmk f2
 clear own1 g1 O1 hn
 obtain ⟨v2,w2,h2,O2⟩:=app_three OO.out (by omega) 2 ((s.size:Int) / 256) ((s.size:Int) % 256)
 obtain ⟨v3,w3,h3,O3⟩:=app_str O2 s (by omega) (by omega)
 have OO3:=Lib.hid O3
 clear O2 O3
 go_enter Tryz.func169,Tryz.ntmps169
 go_wp2_with (first
  | (at_builtin;refine Lib.wpList_append_run _ rfl _ _ _ _ rfl _ _ rfl rfl _ _ h2 ?_)
  | (at_builtin;refine Lib.wpList_append_run _ rfl _ _ _ _ rfl _ _ rfl rfl _ _ h3 ?_)
  | (go_at_call 252;refine (SS.out _ (by omega)).mono ?_;rintro e w4 ⟨⟨x,x0,x1,rfl⟩,k4⟩;(have O4:=Lib.hid (OO3.out.kept k4));clear k4)
  | (go_at_call 251;refine (bytes_any x x0 x1 _).mono ?_;rintro e w5 ⟨⟨f,hf,rfl⟩,k5⟩;(obtain ⟨v6,w6,h6,O6⟩:=app_str (O4.out.kept k5) f (by omega) (by omega));(obtain ⟨v7,w7,h7,O7⟩:=app_one O6 (by omega) 3);(obtain ⟨F,hF,cv,K7⟩:=conv_own O7 (by omega));(have KK7:=Lib.hid K7);clear k5 O6 O7 K7)
  | (at_builtin;refine Lib.wpList_append_run _ rfl _ _ _ _ rfl _ _ rfl rfl _ _ h6 ?_)
  | (at_builtin;refine Lib.wpList_append_run _ rfl _ _ _ _ rfl _ _ rfl rfl _ _ h7 ?_))

 go_ret2
 exact ⟨⟨F,by omega,rfl⟩,KK7.out⟩
end
end Go.Proofs.YthknocapablpaaaGreatDoor
