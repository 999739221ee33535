/- A part of the proof. -/
import Derived.Test.YthknocapablpaaaGreatDoorAi4
import Derived.Test.YthknocapablpaaaGreatDoorAi17
import Derived.Test.YthknocapablpaaaGreatDoorAi24
import Derived.Test.YthknocapablpaaaGreatDoorAi29
namespace Go.Proofs.YthknocapablpaaaGreatDoor
/- The disk: its struct, its map of files; what runs, opens, asks. -/
section
set_option maxRecDepth 100000
open Go.RowKit Go.MapKept Go.ChangeMaps

/-- A file: its name, its bytes, how many are safe. -/
structure Fl where
 n:ByteArray
 d:ByteArray
 s:Int
def fileV (d:ByteArray)(s:Int):Value:=.agg #[.string d,.int .i64 s]
def Fl.val (f:Fl):Value:=fileV f.d f.s
def filesL (F:List Fl):List KV:=F.map fun f=>(f.n,f.val)
theorem uMapF:Tryz.prog.underlying 110=some (.map 9 137):=Tryz.underlying110
theorem look_file {w:World}{b:Nat}{L:List KV}(h:MapF w b L)(k:ByteArray)(ok:Bool):(Instr.lookup 110 (.map (some b)) (.string k) ok).run Tryz.prog w = .ok (if ok then .tuple #[oldL k (fileV ⟨#[]⟩ 0) L,.bool (idxL k L).isSome] else oldL k (fileV ⟨#[]⟩ 0) L) w:=by
 have f:=findk_any k w L 1
 have c:=ckS k
 unfold keyV at f c
 unfold Instr.lookup
 simp only [Sem.run_bind,run_underlying uMapF,Go.MapKept.run_getObj_map h,Result.andThen_ok,Sem.run_pure,c,f]
 unfold oldL
 cases hi:idxL k L with
 | none=>
  have z:(zeroValue 137).run Tryz.prog w = .ok (fileV ⟨#[]⟩ 0) w:=Tryz.zeroValue137 w
  simp [z]
 | some j=>simp
theorem set_file {w:World}{b:Nat}{L:List KV}(h:MapF w b L)(k:ByteArray)(v:Value):(Instr.mapUpdate 110 (.map (some b)) (.string k) v).run Tryz.prog w = .ok () (setBlock w b (.map (entsL 1 (putK k v L)).toArray (1+(putK k v L).length))):=by
 have f:=findk_any k w L 1
 have c:=ckS k
 have sa:=stays_any
 unfold keyV at f c sa
 unfold Instr.mapUpdate
 simp only [Sem.run_bind,run_underlying uMapF,Go.MapKept.run_getObj_map h,Result.andThen_ok,c,f]
 unfold putK stampL
 cases hi:idxL k L with
 | none=>
  have pe:=push_ents1 L k v
  unfold keyV at pe
  simp only [Option.map_none,Go.MapKept.run_setObj_map _ h,pe]
  simp [setBlock,Nat.add_assoc]
 | some i=>
  obtain ⟨p,hp,rfl⟩:=idxL_some hi
  have e:(entsL 1 L).toArray[i]? = some ⟨keyV p.1,p.2,1+i⟩:=by simp [entsL_at,hp]
  have mb:=modify_both (n:=1) v hp
  unfold keyV at e mb
  simp only [Option.map_some,e,Option.getD_some,Sem.run_bind,sa,Result.andThen_ok,mb,Go.MapKept.run_setObj_map _ h]
  simp [setBlock]
/-- A disk that is running, without a crash to come. -/
structure DiskOk (w:World) (d fm:Nat) (room:Int) (F:List Fl):Prop where
 c0:w.cell? ⟨d,0,none⟩=some (.int .i64 room)
 c1:w.cell? ⟨d,1,none⟩=some (.int .i64 0)
 c2:w.cell? ⟨d,2,none⟩=some (.bool false)
 c3:w.cell? ⟨d,3,none⟩=some (.map (some fm))
 c4:w.cell? ⟨d,4,none⟩=some .nilFunc
 mp:MapF w fm (filesL F)
 nd:(F.map (·.n)).Nodup
theorem DiskOk.kept {S:Nat→Prop}{w w':World}{d fm:Nat}{room:Int}{F:List Fl}(D:DiskOk w d fm room F)(K:Kept S w w')(hd:¬ S d)(hf:¬ S fm):DiskOk w' d fm room F:=
 ⟨K.cell D.c0 hd,K.cell D.c1 hd,K.cell D.c2 hd,K.cell D.c3 hd,K.cell D.c4 hd,D.mp.kept K hf,D.nd⟩
section
variable {w:World}{d fm:Nat}{room:Int}{F:List Fl}
theorem runs_any (D:DiskOk w d fm room F):Calls Tryz.prog 67 #[.pointer (some ⟨d,0,none⟩)] w fun e w'=>e = .returned (.int .i64 0)∧w=w':=by
 have c2:=D.c2
 have IA:=is_at d 0 fm w (by rw [Nat.zero_add];exact D.c3)
 go_enter Tryz.func67,Tryz.ntmps67
 go_wp2_with (go_at_call 125;refine IA.mono ?_;rintro e w4 ⟨rfl,rfl⟩)
 go_ret
 exact ⟨rfl,rfl⟩
theorem up_any (D:DiskOk w d fm room F):Calls Tryz.prog 110 #[.pointer (some ⟨d,0,none⟩)] w fun e w'=>e = .returned (.bool true)∧w=w':=by
 go_enter Tryz.func110,Tryz.ntmps110
 go_wp2_with (go_at_call 67;refine (runs_any D).mono ?_;rintro e w4 ⟨rfl,rfl⟩)
 go_ret
 exact ⟨rfl,rfl⟩
theorem starts_any (D:DiskOk w d fm room F):Calls Tryz.prog 106 #[.pointer (some ⟨d,0,none⟩)] w fun e w'=>e = .returned (.int .i64 0)∧w=w':=by
 have c1:=D.c1
 have IA:=is_at d 0 fm w (by rw [Nat.zero_add];exact D.c3)
 go_enter Tryz.func106,Tryz.ntmps106
 go_wp2_with (go_at_call 125;refine IA.mono ?_;rintro e w4 ⟨rfl,rfl⟩)
 go_ret
 exact ⟨rfl,rfl⟩
theorem crashes_any (D:DiskOk w d fm room F):Calls Tryz.prog 276 #[.pointer (some ⟨d,0,none⟩)] w fun e w'=>e = .returned (.bool false)∧w=w':=by
 have c4:=D.c4
 have q24:∀ (w:World),(binOp .neq 24 .nilFunc .nilFunc).run Tryz.prog w = .ok (.bool false) w:=fun w=>by kernel_rfl
 go_enter Tryz.func276,Tryz.ntmps276
 go_wp2
 go_ret
 exact ⟨rfl,rfl⟩
end
theorem named_any (s:ByteArray)(w:World)(h1:s.size≠0)(h2:s.size≤16):Calls Tryz.prog 253 #[.string s] w fun e w'=>e = .returned (.bool true)∧w=w':=by
 have h3:¬ s.toList=[]:=fun e=>h1 (by rw [ByteArray.toList_eq] at e;have:=congrArg List.length e;simpa using this)
 have h4:(s.toList == [])=false:=by simpa using h3
 have h5:(s.size:Int)≤16:=by omega
 go_enter Tryz.func253,Tryz.ntmps253
 go_wp2
 go_ret
 exact ⟨rfl,rfl⟩
end
/- The disk: open, change, Append. -/
section
set_option maxRecDepth 100000
open Go.RowKit Go.MapKept Go.ChangeMaps

theorem idx_file:∀ {F:List Fl}{f:Fl}{i:Nat},(F.map (·.n)).Nodup→F[i]? = some f→idxL f.n (filesL F)=some i
 | [],f,i,_,h=>by simp at h
 | g::F,f,0,_,h=>by
  simp at h
  subst h
  simp [filesL,idxL]
 | g::F,f,i+1,hn,h=>by
  have h':F[i]? = some f:=by simpa using h
  have hn':=hn
  rw [List.map_cons,List.nodup_cons] at hn'
  have ne:f.n≠g.n:=fun e=>hn'.1 (e ▸ List.mem_map.2 ⟨f,List.mem_of_getElem? h',rfl⟩)
  have ih:=idx_file hn'.2 h'
  unfold filesL at ih ⊢
  rw [List.map_cons]
  unfold idxL
  simp [ne,ih]
theorem idx_nofile:∀ {F:List Fl}{n:ByteArray},(∀ f∈F,f.n≠n)→idxL n (filesL F)=none
 | [],n,_=>rfl
 | g::F,n,h=>by
  have ih:=idx_nofile (F:=F) (fun f hf=>h f (by simp [hf]))
  have ne:n≠g.n:=fun e=>h g (by simp) e.symm
  unfold filesL at ih ⊢
  rw [List.map_cons]
  unfold idxL
  simp [ne,ih]
theorem old_file {F:List Fl}{f:Fl}{i:Nat}(hn:(F.map (·.n)).Nodup)(h:F[i]? = some f)(z:Value):oldL f.n z (filesL F)=f.val∧(idxL f.n (filesL F)).isSome=true:=by
 have e:=idx_file hn h
 unfold oldL
 rw [e]
 simp [filesL,h]
theorem put_file {F:List Fl}{f:Fl}{i:Nat}(hn:(F.map (·.n)).Nodup)(h:F[i]? = some f)(d:ByteArray)(s:Int):putK f.n (fileV d s) (filesL F)=filesL (F.set i ⟨f.n,d,s⟩):=by
 have e:=idx_file hn h
 unfold putK stampL
 rw [e]
 simp [filesL,Fl.val,List.map_set]
theorem put_nofile {F:List Fl}{n:ByteArray}(h:∀ f∈F,f.n≠n)(d:ByteArray)(s:Int):putK n (fileV d s) (filesL F)=filesL (F++[⟨n,d,s⟩]):=by
 have e:=idx_nofile h
 unfold putK
 rw [e]
 simp [filesL,Fl.val]
theorem set_names {F:List Fl}{f:Fl}{i:Nat}(h:F[i]? = some f)(d:ByteArray)(s:Int):(F.set i ⟨f.n,d,s⟩).map (·.n)=F.map (·.n):=by
 rw [List.map_set]
 apply List.ext_getElem?
 intro j
 rw [List.getElem?_set]
 split
 ·rename_i e
  subst e
  split
  ·simp [h]
  ·rename_i e2
   rw [List.getElem?_eq_none (by simpa using e2)]
 ·rfl
theorem DiskOk.set {w:World}{d fm:Nat}{room:Int}{F F':List Fl}{L:List KV}(D:DiskOk w d fm room F)(hL:L=filesL F')(hn:(F'.map (·.n)).Nodup):DiskOk (setBlock w fm (.map (entsL 1 L).toArray (1+L.length))) d fm room F'∧Kept (fun b=>b=fm) w (setBlock w fm (.map (entsL 1 L).toArray (1+L.length))):=by
 subst hL
 have ne:¬ d=fm:=fun e=>by
  have h1:=D.c0
  rw [e,D.mp.not_cell] at h1
  cases h1
 have K:Kept (fun b=>b=fm) w (setBlock w fm (.map (entsL 1 (filesL F')).toArray (1+(filesL F').length))):=⟨rfl,rfl,rfl,by simp [setBlock],fun q _ hq=>by
  simp only [setBlock]
  exact Array.getElem?_setIfInBounds_ne (fun e=>hq e.symm)⟩
 exact ⟨⟨K.cell D.c0 ne,K.cell D.c1 ne,K.cell D.c2 ne,K.cell D.c3 ne,K.cell D.c4 ne,MapF.set D.mp.lt,hn⟩,K⟩
section
variable {w:World}{d fm:Nat}{room:Int}{F:List Fl}
set_option maxHeartbeats 4000000 in
theorem open_any (D:DiskOk w d fm room F){f:Fl}{i:Nat}(h:F[i]? = some f):Calls Tryz.prog 175 #[.pointer (some ⟨d,0,none⟩),.string f.n] w fun e w'=>e = .returned (.tuple #[f.val,.int .i64 0])∧Kept (fun _=>False) w w':=by
 obtain ⟨q,hq⟩:∃ q,w.heap.size=q:=⟨_,rfl⟩
 obtain ⟨W0,hW0⟩:∃ W,w.alloc (Obj.cells #[.string ⟨#[]⟩,.int .i64 0] 137)=W:=⟨_,rfl⟩
 have k0:Kept (fun _=>False) w W0:=by rw [← hW0];exact (Kept.refl _ _).alloc _
 have D0:=D.kept k0 (fun f=>f) (fun f=>f)
 have y0:W0.cell? ⟨q,0,none⟩=some (.string ⟨#[]⟩):=by rw [← hW0,← hq];simp [go_sem]
 have y1:W0.cell? ⟨q,1,none⟩=some (.int .i64 0):=by rw [← hW0,← hq];simp [go_sem]
 have yf:∀ j,W0.frozen? ⟨q,j,none⟩=false:=fun j=>by rw [← hW0,← hq];simp [go_sem]
 have yl:=World.block_lt_of_cell? _ _ y0
 have c3:=D0.c3
 have LK:=look_file D0.mp f.n true
 rw [(old_file D0.nd h _).1,(old_file D0.nd h (fileV ⟨#[]⟩ 0)).2] at LK
 simp only [if_true] at LK
 obtain ⟨fn,fd,fs⟩:=f
 unfold Fl.val fileV at LK ⊢
 simp only at LK ⊢
 have K0:=Lib.hid k0
 have D00:=Lib.hid D0
 clear D k0 D0
 go_enter Tryz.func175,Tryz.ntmps175
 go_wp2_with (go_at_call 67;refine (runs_any D00.out).mono ?_;rintro e w4 ⟨rfl,rfl⟩)
 have hp:q<w.heap.size→False:=fun h=>by omega
 refine bodyPost_ret_by (v:=_) ?_ rfl ⟨rfl,(Kept.setAt hp (Kept.setAt hp K0.out)).alloc _⟩
 rw [results_cell_tmp rfl]
 go_simp
end
end
/- (*disk.Disk).Names, as a summary. -/
section
open Go.RowKit Go.Maps Go.Sort Go.Lib Go.Eng Go.WideShapes Go.MapKept
open Go.WideElems (Fit rd rg rg_of rd_mk)

def toU (l:List Nat):List UInt8:=l.map Nat.toUInt8
def ofU (l:List UInt8):List Nat:=l.map UInt8.toNat
noncomputable section
/-- The files' names in order. -/
def nmsS (args:List AV)(h:Heap)(c:Nat):Option CRes:=match args with
 | [.nilp]=>some (.mk .nils h c)
 | [.ptr n o]=>(cells? h n).bind fun tc=>match nth tc.2 (o+3) with
  | some .nilm=>some (.mk .nils h c)
  | some (.map m)=>match h.get m with
   | some (.map es cl) => bif Nat.ble es.length 1000000 && bornOk cl es && distinctN (borns es) then (keysOf es).bind fun ks => bif apartNs ks then
     match sortU (ks.map toU) with
     | []=>some (.mk .nils h c)
     | x::l=>outC (newCells h c 9 ((x::l).map fun u=>.str (ofU u)) (.slice c 0 (x::l).length (x::l).length true))
     else none
    else none
   | _=>none
  | _=>none
 | _=>none
end

theorem memNs_iff {x:List Nat}:∀ {l:List (List Nat)},memNs x l=false→x ∉ l
 | [],_=>by simp
 | y::l,h=>by
  unfold memNs at h
  cases e:nsEq x y with
  | true=>simp [e] at h
  | false=>
   simp only [e,cond_false] at h
   intro hm
   rcases List.mem_cons.1 hm with rfl | hm
   ·have : ∀ z : List Nat, nsEq z z = true := by intro z; induction z with | nil => rfl | cons a z ih => simp [nsEq, ih]
    rw [this] at e;cases e
   ·exact memNs_iff h hm
theorem apartNs_nodup:∀ {l:List (List Nat)},apartNs l=true→l.Nodup
 | [],_=>List.nodup_nil
 | x::l,h=>by
  unfold apartNs at h
  cases e:memNs x l with
  | true=>simp [e] at h
  | false=>
   simp only [e,cond_false] at h
   exact List.nodup_cons.2 ⟨memNs_iff e,apartNs_nodup h⟩
theorem distinctN_nodup:∀ {l:List Nat},distinctN l=true→l.Nodup
 | [],_=>List.nodup_nil
 | x::l,h=>by
  unfold distinctN at h
  rw [Bool.and_eq_true,Bool.not_eq_true'] at h
  refine List.nodup_cons.2 ⟨fun hm=>?_,distinctN_nodup h.2⟩
  rw [memN_iff.2 hm] at h
  cases h.1

def anyR:Value→Option (DataW Unit × List MemPlace):=fun _=>some (.lit (.bool true),[])

/-- What a map of texts comes to. -/
theorem es_facts {σ:Sig}{η:Env}{cl:Nat}:∀ {es:List (AV × AV × Nat)}{ms:List MapEntry}{ks:List (List Nat)},EsR σ η es ms→keysOf es=some ks→bornOk cl es=true →
  ms.map (·.key)=ks.map (fun k=>Value.string (bs k))∧(∀ k∈ks,allB k=true∧k.length≤1000000)∧ms.map (·.born)=borns es∧(∀ x∈ms,x.born<cl)∧ms.length=es.length
 | [],[],ks,_,hk,_=>by simp [keysOf] at hk;subst hk;exact ⟨rfl,by simp,rfl,by simp,rfl⟩
 | [],_::_,_,h,_,_=>h.elim
 | _::_,[],_,h,_,_=>by obtain ⟨_,_,_⟩:=‹AV × AV × Nat›;exact h.elim
 | (k,v,b)::es,e::ms,ks,⟨h1,h2,h3,h4⟩,hk,hb=>by
  unfold keysOf at hk
  split at hk
  ·rename_i s
   cases q:Nat.ble s.length 1000000 with
   | false=>simp [q] at hk
   | true=>
    simp only [q,cond_true,Option.map_eq_some_iff] at hk
    obtain ⟨ks',hk',rfl⟩:=hk
    unfold bornOk at hb
    rw [Bool.and_eq_true] at hb
    obtain ⟨i1,i2,i3,i4,i5⟩:=es_facts h4 hk' hb.2
    obtain ⟨s1,s2⟩:=conc_str.1 h1
    refine ⟨by simp only [List.map_cons,i1,s2],?_,by simp only [List.map_cons,i3,h3,borns],?_,by simp [i5]⟩
    ·intro x hx
     rcases List.mem_cons.1 hx with rfl | hx
     ·exact ⟨s1,Nat.le_of_ble_eq_true q⟩
     ·exact i2 x hx
    ·intro x hx
     rcases List.mem_cons.1 hx with rfl | hx
     ·rw [h3];exact Nat.le_of_ble_eq_true hb.1
     ·exact i4 x hx
  ·cases hk

theorem ofU_toU {l:List Nat}(h:allB l=true):ofU (toU l)=l:=by
 unfold ofU toU
 rw [List.map_map]
 have:∀ b∈l,(UInt8.toNat ∘ Nat.toUInt8) b=b:=fun b hb=>u8_toNat (by simp only [allB,List.all_eq_true,decide_eq_true_eq] at h;exact h b hb)
 rw [List.map_congr_left this]
 simp
theorem keys_nodup:∀ {ks:List (List Nat)},ks.Nodup→(∀ k∈ks,allB k=true∧k.length≤1000000)→(ks.map fun k=>Value.string (bs k)).Nodup
 | [],_,_=>by simp
 | k::ks,h,ha=>by
  rw [List.nodup_cons] at h
  rw [List.map_cons,List.nodup_cons]
  refine ⟨fun hm=>?_,keys_nodup h.2 fun x hx=>ha x (List.mem_cons_of_mem _ hx)⟩
  obtain ⟨y,hy,e⟩:=List.mem_map.1 hm
  have e2:toU y=toU k:=by
   simp only [Value.string.injEq,bs,ByteArray.mk.injEq] at e
   simpa [toU] using e
  have:y=k:=by rw [← ofU_toU (ha y (List.mem_cons_of_mem _ hy)).1,e2,ofU_toU (ha k List.mem_cons_self).1]
  exact h.1 (this ▸ hy)

theorem names_of {σ:Sig}{η:Env}{cl:Nat}{es:List (AV × AV × Nat)}{ms:Array MapEntry}{ks:List (List Nat)}(hE:EsR σ η es ms.toList)(hk:keysOf es=some ks)(hb:bornOk cl es=true)(hl:es.length≤1000000)(hd:distinctN (borns es)=true)(ha:apartNs ks=true) :
  Fit Tryz.prog 9 anyR ms cl∧ms.size≤1000000∧(strKeys (.map ((ms.toList.map (rg Tryz.prog 9 anyR)).foldr DataW.insert []))).Perm (ks.map toU)∧∀ k∈ks,allB k=true:=by
 obtain ⟨f1,f2,f3,f4,f5⟩:=es_facts hE hk hb
 have hkey:∀ x∈ms.toList,∃ k∈ks,x.key = .string (bs k):=fun x hx=>by
  have:x.key∈ms.toList.map (·.key):=List.mem_map.2 ⟨x,hx,rfl⟩
  rw [f1] at this
  obtain ⟨k,h1,h2⟩:=List.mem_map.1 this
  exact ⟨k,h1,h2.symm⟩
 have hrd:∀ x∈ms.toList,∀ k∈ks,x.key = .string (bs k)→rd Tryz.prog 9 anyR x=some (.string (toU k),.lit (.bool true)):=fun x hx k hk e=>by
  have h9:=Tryz.underlying9
  have hsz:(bs k).size≤maxLen:=by rw [bs_size];have:=(f2 k hk).2;unfold maxLen;omega
  have hko:keyOf Tryz.prog 9 x.key=some (.string (toU k)):=by
   rw [e]
   simp only [keyOf,mapKey,h9,if_pos hsz]
   rfl
  have hv:anyR x.val=some (.lit (.bool true),[]):=rfl
  exact rd_mk hko hv
 have hsize:ms.size=es.length:=by rw [← f5];simp
 refine ⟨⟨by rw [hsize];unfold maxLen;omega,⟨f4,by rw [f3];exact distinctN_nodup hd,by rw [f1];exact keys_nodup (apartNs_nodup ha) f2⟩,fun x hx=>?_⟩,by omega,?_,fun k hk=>(f2 k hk).1⟩
 ·obtain ⟨k, h1, h2⟩ := hkey x hx
  exact ⟨_,hrd x hx k h1 h2⟩
 ·have p := sorted_perm (ms.toList.map (rg Tryz.prog 9 anyR))
  have:((ms.toList.map (rg Tryz.prog 9 anyR)).map fun p=>strOf p.1)=ks.map toU:=by
   rw [List.map_map]
   have e1:ms.toList.map ((fun p=>strOf p.1) ∘ rg Tryz.prog 9 anyR)=(ms.toList.map (·.key)).map (fun v=>match v with | .string s=>s.data.toList | _=>[]):=by
    rw [List.map_map]
    apply List.map_congr_left
    intro x hx
    obtain ⟨k,h1,h2⟩:=hkey x hx
    simp only [Function.comp,rg_of (hrd x hx k h1 h2),strOf,h2]
    rfl
   rw [e1,f1,List.map_map]
   apply List.map_congr_left
   intro k _
   rfl
  rw [← this]
  exact p.map _

theorem str_rows {σ:Sig}{η:Env}:∀ (l:List (List UInt8)),concs σ η (l.map fun u=>AV.str (ofU u))=some (l.map encStr)∧allOne (l.map encStr)=true
 | []=>⟨rfl,rfl⟩
 | u::l=>by
  obtain ⟨h1,h2⟩:=str_rows (σ:=σ) (η:=η) l
  have hb:allB (ofU u)=true:=by
   simp only [allB,List.all_eq_true,decide_eq_true_eq,ofU]
   intro x hx
   obtain ⟨y,_,rfl⟩:=List.mem_map.1 hx
   exact y.toNat_lt
  have he:bs (ofU u)=⟨u.toArray⟩:=by
   unfold bs ofU
   rw [List.map_map]
   have:∀ y∈u,(Nat.toUInt8 ∘ UInt8.toNat) y=y:=fun y _=>by simp [Function.comp]
   rw [List.map_congr_left this]
   simp
  exact ⟨concs_cons.2 ⟨_,_,conc_str.2 ⟨hb,rfl⟩,h1,by rw [he];rfl⟩,by simp only [List.map_cons,allOne,h2,Bool.and_true];rfl⟩

theorem nms_ok {η:Env}{args:List AV}{h:Heap}{c:Nat}{v:AV}{h':Heap}{c':Nat}(he:nmsS args h c=some (.mk v h' c')){σ:Sig}{w:World}{avs:List Value}(H:HR Tryz.prog σ η h c w)(ha:concs σ η args=some avs):Calls Tryz.prog 68 avs.toArray w (Done Tryz.prog η σ h c w v h' c'):=by
 unfold nmsS at he
 split at he
 ·-- nil
  cases he
  obtain ⟨pv,rs,hp,hr,rfl⟩:=concs_cons.1 ha
  simp only [concs,Option.some.injEq] at hr
  subst hr
  simp only [conc,Option.some.injEq] at hp
  subst hp
  refine Calls.mono (names_nil w) ?_
  rintro e w' ⟨rfl,rfl⟩
  exact ⟨_,σ,rfl,rfl,Went.refl H⟩
 ·rename_i n o
  obtain ⟨pv,rs,hp,hr,rfl⟩:=concs_cons.1 ha
  simp only [concs,Option.some.injEq] at hr
  subst hr
  obtain ⟨l,hl,rfl⟩:=conc_ptr.1 hp
  rw [Option.bind_eq_some_iff] at he
  obtain ⟨⟨t,cs⟩,hc,he⟩:=he
  obtain ⟨us,u1,u2,u3,_⟩:=H.cells hc hl
  have cell:∀ a,nth cs (o+3)=some a→∃ u,conc σ η a=some u∧w.cell? ⟨l.blk,l.off+o+3,none⟩=some u:=fun a ea=>by
   rw [nth_eq] at ea
   obtain ⟨u,q1,q2⟩:=(concs_get u1 (o+3)).2 a ea
   exact ⟨u,q2,by have:=u3 _ _ q1;rwa [← Nat.add_assoc] at this⟩
  split at he
  ·rename_i ea
   cases he
   obtain ⟨u,q1,q2⟩:=cell _ ea
   simp only [conc,Option.some.injEq] at q1
   subst q1
   refine Calls.mono (names_nilmap l.blk (l.off+o) w q2) ?_
   rintro e w' ⟨rfl,rfl⟩
   exact ⟨_,σ,rfl,rfl,Went.refl H⟩
  ·rename_i m ea
   obtain ⟨u,q1,q2⟩:=cell _ ea
   obtain ⟨lm,hlm,rfl⟩:=conc_map.1 q1
   split at he
   ·rename_i es cl hg
    obtain ⟨ms,hb,hE⟩:=H.mapAt hg hlm
    cases h0:(Nat.ble es.length 1000000 && bornOk cl es && distinctN (borns es)) with
    | false=>simp [h0] at he
    | true=>
    simp only [h0,cond_true,Option.bind_eq_some_iff] at he
    rw [Bool.and_eq_true,Bool.and_eq_true] at h0
    obtain ⟨ks,hk,he⟩:=he
    cases h1:apartNs ks with
    | false=>simp [h1] at he
    | true=>
    simp only [h1,cond_true] at he
    obtain ⟨F,hms,hperm,_⟩:=names_of hE hk h0.1.2 (Nat.le_of_ble_eq_true h0.1.1) h0.2 h1
    have hown:=World.ownsMap_of_fit (R:=anyR) hb F (fun _ _ _ h=>h)
    have hsz:Maps.size (.map ((ms.toList.map (rg Tryz.prog 9 anyR)).foldr DataW.insert []))=ms.size:=length_read ms
    refine Calls.mono (names_at l.blk (l.off+o) lm.blk ms.size _ anyR w q2 hown (by rw [hsz];unfold maxLen;omega) (by rw [hsz];omega)) ?_
    rintro e w' ⟨v0,ss,rfl,p1,p2,p3,p4⟩
    have hmerge:=merge_eq (p1.trans hperm)
    rw [hmerge] at p2
    have hlen:ss.length=(sortU (ks.map toU)).length:=by rw [← hmerge];exact (List.mergeSort_perm _ _).length_eq.symm
    rw [hlen] at p2
    split at he
    ·rename_i es0
     cases he
     rw [es0] at hlen
     have:ss=[]:=List.length_eq_zero_iff.1 hlen
     rw [p3.2 this]
     exact ⟨_,σ,rfl,conc_nils.2 rfl,Went.same H (fun k hk=>p4.block k hk) p4.size p4.os p4.tape p4.output⟩
    ·rename_i x xs es0
     rw [es0] at p2 hlen
     have he:=outC_some he
     unfold newCells fCells at he
     rw [fAVs_eq] at he
     obtain ⟨hcb,he⟩:=putObj_ok he
     rw [fNat_eq] at he
     cases he
     obtain ⟨r1,r2⟩:=p2
     rcases r2 with ⟨_,r2⟩ | ⟨g,cap,cur,rfl,g1,g2,g3,g4,g5,g6⟩
     ·simp at r2
     ·obtain ⟨s1, s2⟩ := str_rows (σ := σ) (η := η) (x :: xs)
      have h9:Tryz.prog.cellsOf 9=1:=by kernel_rfl
      have hgl:((x::xs).map encStr).length=(x::xs).length:=List.length_map _
      have wt:=fresh_ok (P:=Tryz.prog) (l:=⟨g,0,cap - (x::xs).length⟩) (o:=.cells 9 ((x::xs).map fun u=>.str (ofU u))) (w':=w') H hcb g1 rfl (fun k hk=>p4.block k hk) p4.size p4.os p4.tape p4.output
       ⟨cur,(0,0),(x::xs).map encStr,g2,fun j _ q=>by omega,concs_ext (ext_upd (H.new c (Nat.le_refl _))) s1,s2,fun j y hj=>?_,?_⟩
      ·refine ⟨_, _, rfl, conc_slice.2 ⟨_, upd_same _ _ _, ?_⟩, wt⟩
       simp only [if_true]
       rw [show (x::xs).length+(cap - (x::xs).length)=cap by omega]
      ·rw [← g6] at hj
       rw [List.getElem?_take] at hj
       split at hj
       ·simpa using hj
       ·cases hj
      ·rw [h9, hgl, g5]
       refine ⟨?_,by simp⟩
       show 0+(x::xs).length+(cap - (x::xs).length) * 1≤cap * 1
       omega
   ·cases he
  ·cases he
 ·cases he

end
/- The disk: the names of its files, and their size. -/
section
set_option maxRecDepth 100000
open Go.RowKit Go.Maps Go.Sort Go.Lib Go.Eng Go.WideShapes Go.MapKept
open Go.WideElems (Fit rd rg rg_of rd_mk)

theorem ents_keys:∀ (n:Nat)(L:List KV),(entsL n L).map (·.key)=L.map fun p=>Value.string p.1
 | _,[]=>rfl
 | n,p::t=>by simp [entsL,ents_keys (n+1) t,keyV]
theorem ents_born:∀ (n:Nat)(L:List KV),(entsL n L).map (·.born)=List.range' n L.length
 | _,[]=>rfl
 | n,p::t=>by simp [entsL,ents_born (n+1) t,List.range'_succ]
theorem files_fit {F:List Fl}(hn:(F.map (·.n)).Nodup)(hs:∀ f∈F,f.n.size≤1000)(hl:F.length≤1000000) :
  Fit Tryz.prog 9 anyR (entsL 1 (filesL F)).toArray (1+(filesL F).length)∧(strKeys (.map ((((entsL 1 (filesL F)).toArray).toList.map (rg Tryz.prog 9 anyR)).foldr DataW.insert []))).Perm (F.map fun f=>f.n.data.toList):=by
 have hlen:(filesL F).length=F.length:=by simp [filesL]
 have hk:=ents_keys 1 (filesL F)
 have hb:=ents_born 1 (filesL F)
 have hk2:(entsL 1 (filesL F)).map (·.key)=F.map fun f=>Value.string f.n:=by rw [hk];simp [filesL,Function.comp_def]
 have hkey:∀ x∈entsL 1 (filesL F),∃ f∈F,x.key = .string f.n:=fun x hx=>by
  have:x.key∈(entsL 1 (filesL F)).map (·.key):=List.mem_map.2 ⟨x,hx,rfl⟩
  rw [hk2] at this
  obtain ⟨f,h1,h2⟩:=List.mem_map.1 this
  exact ⟨f,h1,h2.symm⟩
 have hrd:∀ x∈entsL 1 (filesL F),∀ f∈F,x.key = .string f.n→rd Tryz.prog 9 anyR x=some (.string f.n.data.toList,.lit (.bool true)):=fun x _ f hf e=>by
  have h9:=Tryz.underlying9
  have hsz:f.n.size≤maxLen:=by have:=hs f hf;unfold maxLen;omega
  have hko:keyOf Tryz.prog 9 x.key=some (.string f.n.data.toList):=by
   rw [e]
   simp only [keyOf,mapKey,h9,if_pos hsz]
  have hv:anyR x.val=some (.lit (.bool true),[]):=rfl
  exact rd_mk hko hv
 refine ⟨⟨by rw [List.size_toArray,entsL_length,hlen];unfold maxLen;omega,⟨fun x hx=>?_,?_,?_⟩,fun x hx=>?_⟩,?_⟩
 ·have hx' : x ∈ entsL 1 (filesL F) := by simpa using hx
  have:x.born∈(entsL 1 (filesL F)).map (·.born):=List.mem_map.2 ⟨x,hx',rfl⟩
  rw [hb] at this
  have:=List.mem_range'_1.1 this
  omega
 ·have : ((entsL 1 (filesL F)).toArray.toList.map (·.born)) = (entsL 1 (filesL F)).map (·.born) := rfl
  rw [this,hb]
  exact List.nodup_range'
 ·have : ((entsL 1 (filesL F)).toArray.toList.map (·.key)) = (entsL 1 (filesL F)).map (·.key) := rfl
  rw [this,hk2]
  have h2:(F.map fun f=>Value.string f.n)=(F.map (·.n)).map Value.string:=by simp
  rw [h2]
  exact List.Pairwise.map _ (fun a b hab e=>hab (by cases e;rfl)) hn
 ·have hx' : x ∈ entsL 1 (filesL F) := by simpa using hx
  obtain ⟨f,h1,h2⟩:=hkey x hx'
  exact ⟨_,hrd x hx' f h1 h2⟩
 ·have p := sorted_perm ((entsL 1 (filesL F)).map (rg Tryz.prog 9 anyR))
  have:(((entsL 1 (filesL F)).map (rg Tryz.prog 9 anyR)).map fun p=>strOf p.1)=F.map fun f=>f.n.data.toList:=by
   rw [List.map_map]
   have e1:(entsL 1 (filesL F)).map ((fun p=>strOf p.1) ∘ rg Tryz.prog 9 anyR)=((entsL 1 (filesL F)).map (·.key)).map (fun v=>match v with | .string s=>s.data.toList | _=>[]):=by
    rw [List.map_map]
    apply List.map_congr_left
    intro x hx
    obtain ⟨f,h1,h2⟩:=hkey x hx
    simp only [Function.comp,rg_of (hrd x hx f h1 h2),strOf,h2]
   rw [e1,hk2,List.map_map]
   apply List.map_congr_left
   intro f _
   rfl
  rw [← this]
  exact p.map _
theorem names_any {w:World}{d fm:Nat}{room:Int}{F:List Fl}(D:DiskOk w d fm room F)(hs:∀ f∈F,f.n.size≤1000)(hl:F.length≤10000) :
  Calls Tryz.prog 68 #[.pointer (some ⟨d,0,none⟩)] w fun e w'=>∃ (v:Value) (N:List ByteArray),e = .returned v∧N.Perm (F.map (·.n))∧w'.ownsRow w.heap.size 9 1 v N.length (N.map Value.string)∧Kept (fun _=>False) w w':=by
 obtain ⟨f1,f2⟩:=files_fit D.nd hs (by omega)
 have hown:=World.ownsMap_of_fit (R:=anyR) D.mp f1 (fun _ _ _ h=>h)
 have hes:(entsL 1 (filesL F)).toArray.size=F.length:=by rw [List.size_toArray,entsL_length];simp [filesL]
 have hsz:Maps.size (.map (((entsL 1 (filesL F)).toArray.toList.map (rg Tryz.prog 9 anyR)).foldr DataW.insert []))=(entsL 1 (filesL F)).toArray.size:=length_read _
 refine (names_at d 0 fm _ _ anyR w (by rw [Nat.zero_add];exact D.c3) hown (by rw [hsz,hes];unfold maxLen;omega) (by rw [hsz,hes];omega)).mono ?_
 rintro e w' ⟨v,ss,rfl,hp,hrow,_,hb⟩
 have hq:=(List.mergeSort_perm ss (fun x y=>decide (x≤y))).trans (hp.trans f2)
 refine ⟨v,(ss.mergeSort (fun x y=>decide (x≤y))).map (fun l=>⟨l.toArray⟩),rfl,?_,?_,⟨hb.os,hb.tape,hb.output,hb.size,fun k hk _=>hb.block k hk⟩⟩
 ·have := hq.map (fun l => (⟨l.toArray⟩ : ByteArray))
  rw [List.map_map] at this
  have e:((fun l=>(⟨l.toArray⟩:ByteArray)) ∘ fun f:Fl=>f.n.data.toList)=(·.n):=by
   funext f
   simp
  rw [e] at this
  exact this
 ·rw [List.length_map, List.length_mergeSort, List.map_map]
  exact hrow
end
/- The disk: how many bytes there are. -/
section
set_option maxRecDepth 100000
open Go.RowKit Go.MapKept Go.ChangeMaps

def totF (F:List Fl):Nat:=(F.map fun f=>f.d.size).sum
/-- How many bytes a file has. -/
def szF:List Fl→ByteArray→Nat
 | [],_=>0
 | f::F,n=>if f.n=n then f.d.size else szF F n
theorem szF_file:∀ {F:List Fl}{f:Fl}{i:Nat},(F.map (·.n)).Nodup→F[i]? = some f→szF F f.n=f.d.size
 | [],f,i,_,h=>by simp at h
 | g::F,f,0,_,h=>by
  simp at h
  subst h
  simp [szF]
 | g::F,f,i+1,hn,h=>by
  have h':F[i]? = some f:=by simpa using h
  rw [List.map_cons,List.nodup_cons] at hn
  have ne:g.n≠f.n:=fun e=>hn.1 (e ▸ List.mem_map.2 ⟨f,List.mem_of_getElem? h',rfl⟩)
  unfold szF
  rw [if_neg ne]
  exact szF_file hn.2 h'
theorem sz_all {F:List Fl}(hn:(F.map (·.n)).Nodup):((F.map (·.n)).map (szF F)).sum=totF F:=by
 unfold totF
 congr 1
 rw [List.map_map]
 apply List.map_congr_left
 intro f hf
 obtain ⟨i,hi,e⟩:=List.getElem_of_mem hf
 exact szF_file hn (List.getElem?_eq_some_iff.2 ⟨hi,e⟩)
set_option maxHeartbeats 4000000 in
theorem size_any {w:World}{d fm:Nat}{room:Int}{F:List Fl}(D:DiskOk w d fm room F)(hs:∀ f∈F,f.n.size≤1000)(hl:F.length≤10000)(ht:totF F≤1000000000) :
  Calls Tryz.prog 254 #[.pointer (some ⟨d,0,none⟩)] w fun e w'=>e = .returned (.int .i64 (totF F:Nat))∧Kept (fun _=>False) w w':=by
 have NA:=Lib.hid (names_any D hs hl)
 have DD:=Lib.hid D
 have HL:=Lib.hid hl
 have HT:=Lib.hid ht
 have ND:=Lib.hid D.nd
 clear D hs hl ht
 go_enter Tryz.func254,Tryz.ntmps254
 go_wp2_with (go_at_call 68;refine NA.out.mono ?_;rintro e w1 ⟨v,N,rfl,hp,hrow,kk⟩;(have K1:=Lib.hid kk);(have HP:=Lib.hid hp);(have RF:=Lib.hid (row_form hrow));obtain ⟨n,hn⟩:∃ n,N.length=n:=⟨_,rfl⟩;(have HN:=Lib.hid hn);(obtain ⟨ao,cp,rfl⟩:∃ ao cp,v = .slice ao n cp:=by (rcases row_form hrow with ⟨rfl,h0⟩ | ⟨g,cap,rfl,_⟩;exact ⟨none,0,by rw [← hn,h0]⟩;exact ⟨some ⟨g,0,none⟩,cap,by rw [← hn]⟩));(clear hp hrow kk hn))
 have D1:=Lib.hid (DD.out.kept K1.out (fun f=>f) (fun f=>f))
 have c3:=D1.out.c3
 have HSU:=Lib.hid (show (N.map (szF F)).sum=totF F from by rw [← sz_all ND.out];exact (HP.out.map _).sum_nat)
 have NL:=Lib.hid (show n≤10000 from by have:=HP.out.length_eq;rw [List.length_map] at this;have:=HL.out;have:=HN.out;omega)
 go_loopg [3,9] n (fun gh t3 t9 wr=>∃ i:Nat,i+gh=n∧t9 = .int .i64 i∧t3 = .int .i64 (((N.take i).map (szF F)).sum:Nat)∧wr=w1)
 case atStart=>exact ⟨0,by omega,rfl,rfl,rfl⟩
 case round=>
  obtain ⟨i,hgh,rfl,rfl,rfl⟩:=hrel
  cases gk with
  | zero=>
   have hi:i=n:=by omega
   subst hi
   go_wp2_with fail
   go_ret
   refine ⟨?_,K1.out⟩
   have:N.take i=N:=by rw [← HN.out,List.take_length]
   rw [← HSU.out,this]
   rfl
  | succ gk=>
   have hi:i<N.length:=by have:=HN.out;omega
   obtain ⟨nm,hnm⟩:∃ p,N[i]? = some p:=⟨_,List.getElem?_eq_getElem hi⟩
   obtain ⟨f,hf,hfn⟩:∃ f∈F,f.n=nm:=by
    have:=HP.out.mem_iff.1 (List.mem_of_getElem? hnm)
    obtain ⟨f,h1,h2⟩:=List.mem_map.1 this
    exact ⟨f,h1,h2⟩
   obtain ⟨j,hj,ej⟩:=List.getElem_of_mem hf
   have hjf:F[j]? = some f:=List.getElem?_eq_some_iff.2 ⟨hj,ej⟩
   have LK:=look_file D1.out.mp nm false
   rw [← hfn,(old_file ND.out hjf _).1,hfn] at LK
   simp only [Bool.false_eq_true,if_false] at LK
   have SZ:=Lib.hid (szF_file ND.out hjf)
   rw [hfn] at SZ
   obtain ⟨fn,fd,fs⟩:=f
   unfold Fl.val fileV at LK
   simp only at LK SZ
   obtain ⟨g,rfl,hc0⟩:∃ g,ao=some ⟨g,0,none⟩∧∀ (j:Nat) (u:Value),(N.map Value.string)[j]? = some u→wr.cell? ⟨g,j,none⟩=some u:=by
    rcases RF.out with ⟨_,h0⟩ | ⟨g,cap,e,_,_,_,hc⟩
    ·have:=HN.out;omega
    ·cases e;exact ⟨g,rfl,hc⟩
   have c0:=hc0 i (.string nm) (by rw [List.getElem?_map,hnm];rfl)
   have i1:((i:Nat):Int)<(n:Int):=by have:=HN.out;omega
   have i2:(0:Int)≤(i:Int):=by omega
   have hT:N.take (i+1)=N.take i++[nm]:=by rw [List.take_add_one,hnm];rfl
   have HS:=Lib.hid (show ((N.take (i+1)).map (szF F)).sum=((N.take i).map (szF F)).sum+fd.size from by rw [hT];simp [SZ.out])
   have hsum:((N.take i).map (szF F)).sum+fd.size≤1000000000:=by
    rw [← HS.out]
    have h2:(N.map (szF F)).sum=((N.take (i+1)).map (szF F)).sum+((N.drop (i+1)).map (szF F)).sum:=by
     rw [← List.sum_append_nat,← List.map_append,List.take_append_drop]
    have:=HSU.out
    have:=HT.out
    omega
   obtain ⟨s,hs⟩:∃ s,((N.take i).map (szF F)).sum=s:=⟨_,rfl⟩
   rw [hs] at hsum HS ⊢
   have i3:wrap64 ((s:Int)+(fd.size:Int))=((s+fd.size:Nat):Int):=by unfold wrap64;omega
   have i4:wrap64 ((i:Int)+1)=((i+1:Nat):Int):=by have:=NL.out;unfold wrap64;omega
   have GH:=Lib.hid hgh
   have fl:∀ W,(Instr.field 137 (.agg #[.string fd,.int .i64 fs]) 0).run Tryz.prog W = .ok (.string fd) W:=fun W=>by kernel_rfl
   clear hsum hT hnm hjf hj ej hf hfn hgh hi hs hc0
   go_wp2_with fail
   go_roundg gk
   case measure=>omega
   case rel=>exact ⟨i+1,by have:=GH.out;omega,by rw [i4],by rw [i3,HS.out],rfl⟩
end
/- The disk: change, Append. -/
section
set_option maxRecDepth 100000
open Go.RowKit Go.MapKept Go.ChangeMaps

theorem nothing_any (w:World):Calls Tryz.prog 255 #[] w fun e w'=>e = .returned (.tuple #[])∧w=w':=by
 go_enter Tryz.func255,Tryz.ntmps255
 go_wp2
 exact bodyPost_end (results_none rfl _ _ _) rfl ⟨rfl,rfl⟩
theorem le_totF:∀ {F:List Fl}{f:Fl},f∈F→f.d.size≤totF F
 | [],f,h=>by simp at h
 | g::F,f,h=>by
  have e:totF (g::F)=g.d.size+totF F:=by simp [totF]
  rcases List.mem_cons.1 h with rfl | h
  ·omega
  ·have := le_totF h
   omega
theorem change_nil {w:World}{d fm:Nat}{room:Int}{F:List Fl}(D:DiskOk w d fm room F):Calls Tryz.prog 190 #[.pointer (some ⟨d,0,none⟩),.func (.func 255) #[] #[]] w fun e w'=>e = .returned (.int .i64 0)∧w=w':=by
 go_enter Tryz.func190,Tryz.ntmps190
 go_wp2_with (first
  | (go_at_call 276;refine (crashes_any D).mono ?_;rintro e w4 ⟨rfl,rfl⟩)
  | (go_at_call 255;refine (nothing_any _).mono ?_;rintro e w4 ⟨rfl,rfl⟩))
 go_ret
 exact ⟨rfl,rfl⟩
set_option maxHeartbeats 4000000 in
theorem append_old {w:World}{d fm:Nat}{room:Int}{F:List Fl}{f:Fl}{i:Nat}{s:ByteArray}(D:DiskOk w d fm room F)(hf:F[i]? = some f)(hs:∀ f∈F,f.n.size≤16)(hl:F.length≤1000)(h0:f.n.size≠0)(ht:(totF F:Int)+s.size≤room)(hr:room≤1048576) :
  Calls Tryz.prog 170 #[.pointer (some ⟨d,0,none⟩),.string f.n,.string s] w fun e w'=>e = .returned (.int .i64 0)∧DiskOk w' d fm room (F.set i ⟨f.n,f.d++s,f.s⟩)∧Kept (fun b=>b=fm) w w':=by
 have hn16:=hs f (List.mem_of_getElem? hf)
 have RU:=Lib.hid (runs_any D)
 have NM:=Lib.hid (named_any f.n w h0 hn16)
 have LK:=look_file D.mp f.n true
 rw [(old_file D.nd hf _).1,(old_file D.nd hf (fileV ⟨#[]⟩ 0)).2] at LK
 simp only [if_true] at LK
 have c3:=D.c3
 have c0:=D.c0
 have hn:=D.nd
 have DD:=Lib.hid D
 have SZ:=Lib.hid (fun (W:World) (K:Kept (fun _=>False) w W)=>size_any (D.kept K (fun f=>f) (fun f=>f)) (fun f hf=>by have:=hs f hf;omega) (by omega) (by omega))
 have hfd:f.d.size≤totF F:=le_totF (List.mem_of_getElem? hf)
 have PF:=Lib.hid (fun (d:ByteArray) (s:Int)=>put_file hn hf d s)
 have NS:=Lib.hid (fun (d:ByteArray) (s:Int)=>set_names hf d s)
 obtain ⟨fn,fd,fs⟩:=f
 unfold Fl.val fileV at LK
 simp only at LK hfd h0 hn16 NM PF NS ⊢
 obtain ⟨T,hT⟩:∃ T,totF F=T:=⟨_,rfl⟩
 rw [hT] at SZ ht hfd
 have q1:¬ ((s.size:Int) > room - (T:Int)):=by omega
 have q2:IntKind.i64.wrap (room - (T:Int))=room - (T:Int):=by rw [IntKind.wrap_i64];omega
 have q3:fd.size+s.size≤2000000:=by omega
 clear hT hf hs hl ht hr h0 hn16 D
 go_enter Tryz.func170,Tryz.ntmps170
 go_wp2_with (first
  | (go_at_call 67;refine RU.out.mono ?_;rintro e w4 ⟨rfl,rfl⟩)
  | (go_at_call 253;refine NM.out.mono ?_;rintro e w4 ⟨rfl,rfl⟩))
 refine wp_region_held_drew (S:=(fun w'=>w'.cell? ⟨d,0,none⟩=some (.int .i64 room)∧w'.cell? ⟨d,3,none⟩=some (.map (some fm)))) (by kernel_rfl) ?_ (fun hHeld=>?_)
 ·exact ⟨((Kept.refl (fun _=>False) w).alloc _).drew.cell c0 (fun f=>f),((Kept.refl (fun _=>False) w).alloc _).drew.cell c3 (fun f=>f)⟩
 refine tW 0 opAt0 hHeld ?_
 try simp only [Act.put,z2,List.set]
 refine tW 1 opAt1 hHeld ?_
 try simp only [Act.put,z2,List.set]
 refine tW 2 opAt2 hHeld ?_
 try simp only [Act.put,z2,List.set]
 refine tU 3 opAt3 hHeld ?_
 try simp only [Act.put,z2,List.set]
 refine tU 4 opAt4 hHeld ?_
 try simp only [Act.put,z2,List.set]
 refine tU 5 opAt5 hHeld ?_
 try simp only [Act.put,z2,List.set]
 refine tU 6 opAt6 hHeld ?_
 try simp only [Act.put,z2,List.set]
 refine tU 7 opAt7 hHeld ?_
 try simp only [Act.put,z2,List.set]
 refine tU 8 opAt8 hHeld ?_
 try simp only [Act.put,z2,List.set]
 refine tW 9 opAt9 hHeld ?_
 try simp only [Act.put,z2,List.set]
 refine tW 10 opAt10 hHeld ?_
 try simp only [Act.put,z2,List.set]
 refine tW 11 opAt11 hHeld ?_
 try simp only [Act.put,z2,List.set]
 refine tW 12 opAt12 hHeld ?_
 try simp only [Act.put,z2,List.set]
 refine tW 13 opAt13 hHeld ?_
 try simp only [Act.put,z2,List.set]
 refine tW 14 opAt14 hHeld ?_
 try simp only [Act.put,z2,List.set]
 refine tW 15 opAt15 hHeld ?_
 try simp only [Act.put,z2,List.set]
 refine tW 16 opAt16 hHeld ?_
 try simp only [Act.put,z2,List.set]
 refine tW 17 opAt17 hHeld ?_
 try simp only [Act.put,z2,List.set]
 refine wpAnyH_ready (rs:=[18]) (by kernel_rfl) (by simp) ?_
 refine AllReadyH.cons opAt18 (fun K hK=>?_) AllReadyH.nil
 go_simp
 (go_at_call 254;refine (SZ.out _ (((Kept.refl _ _).alloc _).drew)).mono ?_;rintro e w4 ⟨rfl,kk⟩;(have K4:=Lib.hid (((Kept.refl (fun _=>False) w).alloc (.cells #[.string fd,.int .i64 fs] 137)).drew.trans kk (fun _ _ f=>f) (fun _ _ f=>f)));(have y0:=kk.cell (show (w.alloc (.cells #[.string fd,.int .i64 fs] 137)).drew.cell? ⟨w.heap.size,0,none⟩=some (.string fd) by simp [go_sem]) (fun f=>f));(have y1:=kk.cell (show (w.alloc (.cells #[.string fd,.int .i64 fs] 137)).drew.cell? ⟨w.heap.size,1,none⟩=some (.int .i64 fs) by simp [go_sem]) (fun f=>f));(have yf:=fun j=>kk.frozen (show (w.alloc (.cells #[.string fd,.int .i64 fs] 137)).drew.frozen? ⟨w.heap.size,j,none⟩=false by simp [go_sem]) (by simp) (fun f=>f));(have H4:=Lib.hid (And.intro (kk.cell hHeld.1 (fun f=>f)) (kk.cell hHeld.2 (fun f=>f)))))
 refine hK.out _ _ ?_ (fun hHeld=>?_)
 ·exact H4.out
 clear hK K
 try simp only [Act.put,z2,List.set]
 refine tW 19 opAt19 hHeld ?_
 try simp only [Act.put,z2,List.set]
 refine tW 20 opAt20 hHeld ?_
 try simp only [Act.put,z2,List.set]
 refine tW 21 opAt21 hHeld ?_
 try simp only [Act.put,z2,List.set]
 refine wpAnyH_done (by kernel_rfl) ?_ _
 have z0:=H4.out.1
 have z3:=H4.out.2
 have q4:¬ (room - (T:Int)<(s.size:Int)):=by omega
 have D4:=Lib.hid (DD.out.kept K4.out (fun f=>f) (fun f=>f))
 obtain ⟨q,hq⟩:∃ q,w.heap.size=q:=⟨_,rfl⟩
 rw [hq] at y0 y1 yf ⊢
 have ql:=World.block_lt_of_cell? _ _ y0
 obtain ⟨w5,hw5⟩:∃ w5,w4.setCell ⟨q,0,none⟩ (.string (fd++s))=w5:=⟨_,rfl⟩
 have k5:Kept (fun b=>b=q) w4 w5:=by rw [← hw5];exact (Kept.refl _ _).setAt (fun _=>rfl)
 have dq:¬ d=q:=fun e=>by have:=World.block_lt_of_cell? _ _ c0;simp only at this;omega
 have fq:¬ fm=q:=fun e=>by have:=DD.out.mp.lt;omega
 have D5:=Lib.hid (D4.out.kept k5 dq fq)
 have x3:=D5.out.c3
 have x0:w5.cell? ⟨q,0,none⟩=some (.string (fd++s)):=by rw [← hw5];simp [go_sem,y0]
 have x1:w5.cell? ⟨q,1,none⟩=some (.int .i64 fs):=by rw [← hw5];simp [go_sem,y1]
 have MU:=set_file (w:=w5.drew) D5.out.mp fn (.agg #[.string (fd++s),.int .i64 fs])
 obtain ⟨D6,K6⟩:=D5.out.set (PF.out (fd++s) fs) (by rw [NS.out];exact hn)
 have e6:setBlock w5.drew fm (.map (entsL 1 (putK fn (.agg #[.string (fd++s),.int .i64 fs]) (filesL F))).toArray (1+(putK fn (.agg #[.string (fd++s),.int .i64 fs]) (filesL F)).length))=(setBlock w5 fm (.map (entsL 1 (putK fn (fileV (fd++s) fs) (filesL F))).toArray (1+(putK fn (fileV (fd++s) fs) (filesL F)).length))).drew:=rfl
 rw [e6] at MU
 obtain ⟨w6,hw6⟩:∃ w6,setBlock w5 fm (.map (entsL 1 (putK fn (fileV (fd++s) fs) (filesL F))).toArray (1+(putK fn (fileV (fd++s) fs) (filesL F)).length))=w6:=⟨_,rfl⟩
 rw [hw6] at MU D6 K6
 have DD6:=Lib.hid (D6.kept (Kept.refl (fun _=>False) _).drew (fun f=>f) (fun f=>f))
 have KF:=Lib.hid (((K4.out.trans k5 (T:=fun b=>b=fm) (fun _ _ f=>f.elim) (fun b hb e=>by omega)).trans K6 (T:=fun b=>b=fm) (fun _ _ f=>f) (fun _ _ f=>f)).drew)
 clear hq c0 c3 hn kk hw6 e6 D6 K6 LK
 go_wp2_with fail
 have mixed:Tryz.prog.follows .mixedOrders=true:=by kernel_rfl
 go_region_o
 all_goals go_wp2_with (go_at_call 190;refine (change_nil DD6.out).mono ?_;rintro e w7 ⟨rfl,rfl⟩)
 all_goals go_ret
 all_goals exact ⟨rfl,DD6.out,KF.out⟩
end
/- The disk: Append to a new file. -/
section
set_option maxRecDepth 100000
open Go.RowKit Go.MapKept Go.ChangeMaps

theorem len_map {w:World}{b:Nat}{L:List KV}(h:MapF w b L):(Builtin.len_ #[110] 3 #[.map (some b)]).run Tryz.prog w = .ok (.int .i64 (L.length:Nat)) w:=by
 simp [Builtin.len_,Go.MapKept.run_getObj_map h,entsL_length,go_sem]
set_option maxHeartbeats 4000000 in
theorem append_new {w:World}{d fm:Nat}{room:Int}{F:List Fl}{fn s:ByteArray}(D:DiskOk w d fm room F)(hf:∀ f∈F,f.n≠fn)(hn16:fn.size≤16)(hs:∀ f∈F,f.n.size≤16)(hl:F.length≤1000)(h0:fn.size≠0)(ht:(totF F:Int)+s.size≤room)(hr:room≤1048576) :
  Calls Tryz.prog 170 #[.pointer (some ⟨d,0,none⟩),.string fn,.string s] w fun e w'=>e = .returned (.int .i64 0)∧DiskOk w' d fm room (F++[⟨fn,⟨#[]⟩++s,0⟩])∧Kept (fun b=>b=fm) w w':=by
 have RU:=Lib.hid (runs_any D)
 have NM:=Lib.hid (named_any fn w h0 hn16)
 have LK:=look_file D.mp fn true
 have e0:=idx_nofile hf
 unfold oldL at LK
 rw [e0] at LK
 simp only [Option.map_none,Option.getD_none,Option.isSome_none] at LK
 simp only [if_true] at LK
 have c3:=D.c3
 have c0:=D.c0
 have hn:=D.nd
 have DD:=Lib.hid D
 have SZ:=Lib.hid (fun (W:World) (K:Kept (fun _=>False) w W)=>size_any (D.kept K (fun f=>f) (fun f=>f)) (fun f hf=>by have:=hs f hf;omega) (by omega) (by omega))
 have PF:=Lib.hid (fun (d:ByteArray) (s:Int)=>put_nofile hf d s)
 have NS:=Lib.hid (show ∀ (d:ByteArray) (s:Int),((F++[(⟨fn,d,s⟩:Fl)]).map (fun f=>f.n)).Nodup from fun d s=>by
  rw [List.map_append,List.nodup_append]
  refine ⟨hn,by simp,fun a ha b hb e=>?_⟩
  obtain ⟨f,h1,h2⟩:=List.mem_map.1 ha
  simp at hb
  exact hf f h1 (h2.trans (e.trans hb)))
 unfold fileV at LK
 have LN:=Lib.hid (fun (W:World) (K:Kept (fun _=>False) w W)=>len_map (D.mp.kept K (fun f=>f)))
 have hFl:(filesL F).length=F.length:=by simp [filesL]
 rw [hFl] at LN
 have q5:((1024:Int)≤(F.length:Int))=False:=eq_false (by omega)
 have q6:decide ((1024:Int)≤(F.length:Int))=false:=decide_eq_false (by omega)
 obtain ⟨nF,hnF⟩:∃ nF,F.length=nF:=⟨_,rfl⟩
 rw [hnF] at LN q5 q6
 clear e0 hFl hnF
 obtain ⟨T,hT⟩:∃ T,totF F=T:=⟨_,rfl⟩
 rw [hT] at SZ ht
 have q1:¬ ((s.size:Int) > room - (T:Int)):=by omega
 have q2:IntKind.i64.wrap (room - (T:Int))=room - (T:Int):=by rw [IntKind.wrap_i64];omega
 have q3:s.size≤2000000:=by omega
 clear hT hf hs hl ht hr h0 hn16 D
 go_enter Tryz.func170,Tryz.ntmps170
 go_wp2_with (first
  | (go_at_call 67;refine RU.out.mono ?_;rintro e w4 ⟨rfl,rfl⟩)
  | (go_at_call 253;refine NM.out.mono ?_;rintro e w4 ⟨rfl,rfl⟩))
 refine wp_region_held_drew (S:=(fun w'=>w'.cell? ⟨d,0,none⟩=some (.int .i64 room)∧w'.cell? ⟨d,3,none⟩=some (.map (some fm))∧(Builtin.len_ #[110] 3 #[.map (some fm)]).run Tryz.prog w' = .ok (.int .i64 (nF:Nat)) w')) (by kernel_rfl) ?_ (fun hHeld=>?_)
 ·exact ⟨((Kept.refl (fun _=>False) w).alloc _).drew.cell c0 (fun f=>f),((Kept.refl (fun _=>False) w).alloc _).drew.cell c3 (fun f=>f),LN.out _ ((Kept.refl (fun _=>False) w).alloc _).drew⟩
 refine tW 0 opAt0 hHeld ?_
 try simp only [Act.put,z2,List.set]
 refine tW 1 opAt1 hHeld ?_
 try simp only [Act.put,z2,List.set]
 refine tW 2 opAt2 hHeld ?_
 try simp only [Act.put,z2,List.set]
 refine tW 3 opAt3 hHeld ?_
 try simp only [Act.put,z2,List.set]
 refine tW 4 opAt4 hHeld ?_
 try simp only [Act.put,z2,List.set]
 refine tW 5 opAt5 hHeld ?_
 try simp only [Act.put,z2,List.set]
 refine tW 6 opAt6 hHeld ?_
 try simp only [Act.put,z2,List.set]
 refine tW 7 opAt7 hHeld ?_
 try simp only [Act.put,z2,List.set]
 refine tW 8 opAt8 hHeld ?_
 try simp only [Act.put,z2,List.set]
 refine tW 9 opAt9 hHeld ?_
 try simp only [Act.put,z2,List.set]
 refine tW 10 opAt10 hHeld ?_
 try simp only [Act.put,z2,List.set]
 refine tW 11 opAt11 hHeld ?_
 try simp only [Act.put,z2,List.set]
 refine tW 12 opAt12 hHeld ?_
 try simp only [Act.put,z2,List.set]
 refine tW 13 opAt13 hHeld ?_
 try simp only [Act.put,z2,List.set]
 refine tW 14 opAt14 hHeld ?_
 try simp only [Act.put,z2,List.set]
 refine tW 15 opAt15 hHeld ?_
 try simp only [Act.put,z2,List.set]
 refine tW 16 opAt16 hHeld ?_
 try simp only [Act.put,z2,List.set]
 refine tW 17 opAt17 hHeld ?_
 try simp only [Act.put,z2,List.set]
 refine wpAnyH_ready (rs:=[18]) (by kernel_rfl) (by simp) ?_
 refine AllReadyH.cons opAt18 (fun K hK=>?_) AllReadyH.nil
 go_simp
 (go_at_call 254;refine (SZ.out _ (((Kept.refl _ _).alloc _).drew)).mono ?_;rintro e w4 ⟨rfl,kk⟩;(have K4:=Lib.hid (((Kept.refl (fun _=>False) w).alloc (.cells #[.string ⟨#[]⟩,.int .i64 0] 137)).drew.trans kk (fun _ _ f=>f) (fun _ _ f=>f)));(have y0:=kk.cell (show (w.alloc (.cells #[.string ⟨#[]⟩,.int .i64 0] 137)).drew.cell? ⟨w.heap.size,0,none⟩=some (.string ⟨#[]⟩) by simp [go_sem]) (fun f=>f));(have y1:=kk.cell (show (w.alloc (.cells #[.string ⟨#[]⟩,.int .i64 0] 137)).drew.cell? ⟨w.heap.size,1,none⟩=some (.int .i64 0) by simp [go_sem]) (fun f=>f));(have yf:=fun j=>kk.frozen (show (w.alloc (.cells #[.string ⟨#[]⟩,.int .i64 0] 137)).drew.frozen? ⟨w.heap.size,j,none⟩=false by simp [go_sem]) (by simp) (fun f=>f));(have H4:=Lib.hid (And.intro (kk.cell hHeld.1 (fun f=>f)) (kk.cell hHeld.2.1 (fun f=>f)))))
 refine hK.out _ _ ?_ (fun hHeld=>?_)
 ·exact ⟨H4.out.1,H4.out.2,LN.out _ K4.out⟩
 clear hK K
 try simp only [Act.put,z2,List.set]
 refine tW 19 opAt19 hHeld ?_
 try simp only [Act.put,z2,List.set]
 refine tW 20 opAt20 hHeld ?_
 try simp only [Act.put,z2,List.set]
 refine tW 21 opAt21 hHeld ?_
 try simp only [Act.put,z2,List.set]
 refine wpAnyH_done (by kernel_rfl) ?_ _
 have z0:=H4.out.1
 have z3:=H4.out.2
 have q4:¬ (room - (T:Int)<(s.size:Int)):=by omega
 have D4:=Lib.hid (DD.out.kept K4.out (fun f=>f) (fun f=>f))
 obtain ⟨q,hq⟩:∃ q,w.heap.size=q:=⟨_,rfl⟩
 rw [hq] at y0 y1 yf ⊢
 have ql:=World.block_lt_of_cell? _ _ y0
 obtain ⟨w5,hw5⟩:∃ w5,w4.setCell ⟨q,0,none⟩ (.string (⟨#[]⟩++s))=w5:=⟨_,rfl⟩
 have k5:Kept (fun b=>b=q) w4 w5:=by rw [← hw5];exact (Kept.refl _ _).setAt (fun _=>rfl)
 have dq:¬ d=q:=fun e=>by have:=World.block_lt_of_cell? _ _ c0;simp only at this;omega
 have fq:¬ fm=q:=fun e=>by have:=DD.out.mp.lt;omega
 have D5:=Lib.hid (D4.out.kept k5 dq fq)
 have x3:=D5.out.c3
 have x0:w5.cell? ⟨q,0,none⟩=some (.string (⟨#[]⟩++s)):=by rw [← hw5];simp [go_sem,y0]
 have x1:w5.cell? ⟨q,1,none⟩=some (.int .i64 0):=by rw [← hw5];simp [go_sem,y1]
 have MU:=set_file (w:=w5.drew) D5.out.mp fn (.agg #[.string (⟨#[]⟩++s),.int .i64 0])
 obtain ⟨D6,K6⟩:=D5.out.set (PF.out (⟨#[]⟩++s) 0) (NS.out _ _)
 have e6:setBlock w5.drew fm (.map (entsL 1 (putK fn (.agg #[.string (⟨#[]⟩++s),.int .i64 0]) (filesL F))).toArray (1+(putK fn (.agg #[.string (⟨#[]⟩++s),.int .i64 0]) (filesL F)).length))=(setBlock w5 fm (.map (entsL 1 (putK fn (fileV (⟨#[]⟩++s) 0) (filesL F))).toArray (1+(putK fn (fileV (⟨#[]⟩++s) 0) (filesL F)).length))).drew:=rfl
 rw [e6] at MU
 obtain ⟨w6,hw6⟩:∃ w6,setBlock w5 fm (.map (entsL 1 (putK fn (fileV (⟨#[]⟩++s) 0) (filesL F))).toArray (1+(putK fn (fileV (⟨#[]⟩++s) 0) (filesL F)).length))=w6:=⟨_,rfl⟩
 rw [hw6] at MU D6 K6
 have DD6:=Lib.hid (D6.kept (Kept.refl (fun _=>False) _).drew (fun f=>f) (fun f=>f))
 have KF:=Lib.hid (((K4.out.trans k5 (T:=fun b=>b=fm) (fun _ _ f=>f.elim) (fun b hb e=>by omega)).trans K6 (T:=fun b=>b=fm) (fun _ _ f=>f) (fun _ _ f=>f)).drew)
 clear hq c0 c3 hn kk hw6 e6 D6 K6 LK
 go_wp2_with fail
 have mixed:Tryz.prog.follows .mixedOrders=true:=by kernel_rfl
 go_region_o
 all_goals go_wp2_with (go_at_call 190;refine (change_nil DD6.out).mono ?_;rintro e w7 ⟨rfl,rfl⟩)
 all_goals go_ret
 all_goals exact ⟨rfl,DD6.out,KF.out⟩
end
/- The disk: Sync. -/
section
set_option maxRecDepth 100000
open Go.RowKit Go.MapKept Go.ChangeMaps

set_option maxHeartbeats 4000000 in
theorem syncfn_any {w:World}{d fm:Nat}{room:Int}{F:List Fl}{fb db nb i:Nat}{f:Fl}(D:DiskOk w d fm room F)(hf:F[i]? = some f)(h0:w.cell? ⟨fb,0,none⟩=some (.string f.d))(h1:w.cell? ⟨fb,1,none⟩=some (.int .i64 f.s))(hz:w.frozen? ⟨fb,1,none⟩=false)
  (h2:w.cell? ⟨db,0,none⟩=some (.pointer (some ⟨d,0,none⟩)))(h3:w.cell? ⟨nb,0,none⟩=some (.string f.n))(n1:fb≠d)(n3:db≠fb)(n4:nb≠fb) :
  Calls Tryz.prog 256 #[.pointer (some ⟨fb,0,none⟩),.pointer (some ⟨db,0,none⟩),.pointer (some ⟨nb,0,none⟩)] w fun e w'=>e = .returned (.tuple #[])∧DiskOk w' d fm room (F.set i ⟨f.n,f.d,(f.d.size:Nat)⟩)∧Kept (fun b=>b=fm∨b=fb) w w':=by
 have hn:=D.nd
 have PF:=put_file hn hf f.d (f.d.size:Nat)
 have NS:=set_names hf f.d (f.d.size:Nat)
 obtain ⟨fn,fd,fs⟩:=f
 simp only at h0 h1 h3 PF NS ⊢
 obtain ⟨w5,hw5⟩:∃ w5,w.setCell ⟨fb,1,none⟩ (.int .i64 (fd.size:Nat))=w5:=⟨_,rfl⟩
 have k5:Kept (fun b=>b=fb) w w5:=by rw [← hw5];exact (Kept.refl _ _).setAt (fun _=>rfl)
 have ff:¬ fm=fb:=fun e=>by rw [← e,D.mp.not_cell] at h0;cases h0
 have D5:=D.kept k5 (fun (e:d=fb)=>n1 e.symm) ff
 have x3:=D5.c3
 have x0:w5.cell? ⟨fb,0,none⟩=some (.string fd):=by rw [← hw5];simp [go_sem,h0]
 have x1:w5.cell? ⟨fb,1,none⟩=some (.int .i64 (fd.size:Nat)):=by rw [← hw5];simp [go_sem,h1]
 have x2:=k5.cell h2 n3
 have x4:=k5.cell h3 n4
 have MU:=set_file (w:=w5.drew) D5.mp fn (.agg #[.string fd,.int .i64 (fd.size:Nat)])
 obtain ⟨D6,K6⟩:=D5.set PF (by rw [NS];exact hn)
 have e6:setBlock w5.drew fm (.map (entsL 1 (putK fn (.agg #[.string fd,.int .i64 (fd.size:Nat)]) (filesL F))).toArray (1+(putK fn (.agg #[.string fd,.int .i64 (fd.size:Nat)]) (filesL F)).length))=(setBlock w5 fm (.map (entsL 1 (putK fn (fileV fd (fd.size:Nat)) (filesL F))).toArray (1+(putK fn (fileV fd (fd.size:Nat)) (filesL F)).length))).drew:=rfl
 rw [e6] at MU
 obtain ⟨w6,hw6⟩:∃ w6,setBlock w5 fm (.map (entsL 1 (putK fn (fileV fd (fd.size:Nat)) (filesL F))).toArray (1+(putK fn (fileV fd (fd.size:Nat)) (filesL F)).length))=w6:=⟨_,rfl⟩
 rw [hw6] at MU D6 K6
 have DD6:=Lib.hid (D6.kept (Kept.refl (fun _=>False) _).drew (fun f=>f) (fun f=>f))
 have KF:=Lib.hid ((k5.trans K6 (T:=fun b=>b=fm∨b=fb) (fun _ _ f=>.inr f) (fun b hb e=>.inl e)).drew)
 have mixed:Tryz.prog.follows .mixedOrders=true:=by kernel_rfl
 clear hn hw6 e6 D6 K6 PF NS D D5
 go_enter Tryz.func256,Tryz.ntmps256
 go_wp2_with fail
 go_region_o
 all_goals go_wp2
 all_goals exact bodyPost_end (results_none rfl _ _ _) rfl ⟨rfl,DD6.out,KF.out⟩
theorem change_do {w:World}{d fm:Nat}{room:Int}{F:List Fl}(D:DiskOk w d fm room F){a b c:Nat}{R:World→Prop}(C:Calls Tryz.prog 256 #[.pointer (some ⟨a,0,none⟩),.pointer (some ⟨b,0,none⟩),.pointer (some ⟨c,0,none⟩)] w fun e w'=>e = .returned (.tuple #[])∧R w'):Calls Tryz.prog 190 #[.pointer (some ⟨d,0,none⟩),.func (.func 256) #[] #[.pointer (some ⟨a,0,none⟩),.pointer (some ⟨b,0,none⟩),.pointer (some ⟨c,0,none⟩)]] w fun e w'=>e = .returned (.int .i64 0)∧R w':=by
 have CC:=Lib.hid C
 clear C
 go_enter Tryz.func190,Tryz.ntmps190
 go_wp2_with (first
  | (go_at_call 276;refine (crashes_any D).mono ?_;rintro e w4 ⟨rfl,rfl⟩)
  | (go_at_call 256;refine CC.out.mono ?_;rintro e w4 ⟨rfl,hR⟩))
 go_ret
 exact ⟨rfl,hR⟩
set_option maxHeartbeats 4000000 in
theorem sync_any {w:World}{d fm:Nat}{room:Int}{F:List Fl}{i:Nat}{f:Fl}(D:DiskOk w d fm room F)(hf:F[i]? = some f) :
  Calls Tryz.prog 172 #[.pointer (some ⟨d,0,none⟩),.string f.n] w fun e w'=>e = .returned (.int .i64 0)∧DiskOk w' d fm room (F.set i ⟨f.n,f.d,(f.d.size:Nat)⟩)∧Kept (fun b=>b=fm) w w':=by
 obtain ⟨db,hdb⟩:∃ q,w.heap.size=q:=⟨_,rfl⟩
 obtain ⟨W0,hW0⟩:∃ W,(w.alloc (Obj.cells #[.pointer (some ⟨d,0,none⟩)] 25)).alloc (Obj.cells #[.string f.n] 9)=W:=⟨_,rfl⟩
 have k0:Kept (fun _=>False) w W0:=by rw [← hW0];exact ((Kept.refl _ _).alloc _).alloc _
 have y0:W0.cell? ⟨db,0,none⟩=some (.pointer (some ⟨d,0,none⟩)):=by rw [← hW0,← hdb];simp [go_sem]
 have y1:W0.cell? ⟨db+1,0,none⟩=some (.string f.n):=by rw [← hW0,← hdb];simp [go_sem]
 have D0:=Lib.hid (D.kept k0 (fun f=>f) (fun f=>f))
 have OP:=Lib.hid (open_any D0.out hf)
 have K0:=Lib.hid k0
 have dl:=World.block_lt_of_cell? _ _ D.c0
 have SF:=Lib.hid (fun (W:World) (fb:Nat) (K:Kept (fun _=>False) W0 W) (h0:W.cell? ⟨fb,0,none⟩=some (.string f.d)) (h1:W.cell? ⟨fb,1,none⟩=some (.int .i64 f.s)) (hz:W.frozen? ⟨fb,1,none⟩=false) (hb:db+2≤fb)=>
  change_do (D0.out.kept K (fun f=>f) (fun f=>f)) (syncfn_any (D0.out.kept K (fun f=>f) (fun f=>f)) hf h0 h1 hz (K.cell y0 (fun f=>f)) (K.cell y1 (fun f=>f)) (by simp only at dl;omega) (by omega) (by omega)))
 have W0s:W0.heap.size=db+2:=by rw [← hW0];simp [hdb]
 obtain ⟨fn,fd,fs⟩:=f
 unfold Fl.val fileV at OP
 simp only at OP SF y1 hW0 ⊢
 go_enter Tryz.func172,Tryz.ntmps172
 go_wp2_with (first
  | (go_at_call 175;refine OP.out.mono ?_;rintro e w4 ⟨rfl,kk⟩;(have z0:=kk.cell y0 (fun f=>f));(have z1:=kk.cell y1 (fun f=>f));(have zl:=World.block_lt_of_cell? _ _ z0);(have zm:=World.block_lt_of_cell? _ _ z1);(have K4:=Lib.hid kk);(have s4:=kk.size);clear kk)
  | (go_at_call 190;refine (SF.out _ w4.heap.size (K4.out.alloc _) (by simp [go_sem]) (by simp [go_sem]) (by simp [go_sem]) (by omega)).mono ?_;rintro e w5 ⟨rfl,D5,K5⟩))
 go_ret
 refine ⟨rfl,D5,(((K0.out.trans K4.out (fun _ _ f=>f) (fun _ _ f=>f)).alloc _).trans K5 (fun _ _ f=>f.elim) (fun b hb e=>?_))⟩
 rcases e with e | e
 ·exact e
 ·omega
end
/- The journal: ask, Number. -/
section
set_option maxRecDepth 100000
open Go.RowKit Go.MapKept Go.ChangeMaps

/-- A journal that works, on a disk that runs. -/
structure JrnOk (w:World) (j d:Nat) (n:Int):Prop where
 c0:w.cell? ⟨j,0,none⟩=some (.pointer (some ⟨d,0,none⟩))
 c1:w.cell? ⟨j,1,none⟩=some (.int .i64 0)
 c2:w.cell? ⟨j,2,none⟩=some (.bool false)
 c3:w.cell? ⟨j,3,none⟩=some (.int .i64 n)
theorem JrnOk.kept {S:Nat→Prop}{w w':World}{j d:Nat}{n:Int}(J:JrnOk w j d n)(K:Kept S w w')(h:¬ S j):JrnOk w' j d n:=⟨K.cell J.c0 h,K.cell J.c1 h,K.cell J.c2 h,K.cell J.c3 h⟩
section
variable {w:World}{j d fm:Nat}{n room:Int}{F:List Fl}
set_option maxHeartbeats 4000000 in
theorem jask_any (J:JrnOk w j d n)(D:DiskOk w d fm room F):Calls Tryz.prog 168 #[.pointer (some ⟨j,0,none⟩)] w fun e w'=>e = .returned (.int .i64 0)∧Kept (fun _=>False) w w':=by
 have x0:=J.c0
 have x1:=J.c1
 have x2:=J.c2
 have DD:=Lib.hid D
 clear D J
 go_enter Tryz.func168,Tryz.ntmps168
 go_wp2_with fail
 refine wp_region_held_drew (S:=(fun w'=>w'.cell? ⟨j,0,none⟩=some (.pointer (some ⟨d,0,none⟩))∧w'.cell? ⟨j,1,none⟩=some (.int .i64 0)∧w'.cell? ⟨j,2,none⟩=some (.bool false))) (by kernel_rfl) ?_ (fun hHeld=>?_)
 ·exact ⟨x0,x1,x2⟩
 refine tW 0 opAt0 hHeld ?_
 try simp only [Act.put,z2,List.set]
 refine tW 1 opAt1 hHeld ?_
 try simp only [Act.put,z2,List.set]
 refine tW 2 opAt2 hHeld ?_
 try simp only [Act.put,z2,List.set]
 refine tW 3 opAt3 hHeld ?_
 try simp only [Act.put,z2,List.set]
 refine tW 4 opAt4 hHeld ?_
 try simp only [Act.put,z2,List.set]
 refine tW 5 opAt5 hHeld ?_
 try simp only [Act.put,z2,List.set]
 refine tW 6 opAt6 hHeld ?_
 try simp only [Act.put,z2,List.set]
 refine tW 7 opAt7 hHeld ?_
 try simp only [Act.put,z2,List.set]
 refine tW 8 opAt8 hHeld ?_
 try simp only [Act.put,z2,List.set]
 refine wpAnyH_ready (rs:=[9]) (by kernel_rfl) (by simp) ?_
 refine AllReadyH.cons opAt9 (fun K hK=>?_) AllReadyH.nil
 go_simp
 (go_at_call 110;refine (up_any (DD.out.kept (Kept.refl (fun _=>False) _).drew (fun f=>f) (fun f=>f))).mono ?_;rintro e w4 ⟨rfl,rfl⟩)
 refine hK.out _ _ ?_ (fun hHeld=>?_)
 ·exact hHeld
 clear hK K
 try simp only [Act.put,z2,List.set]
 refine tW 10 opAt10 hHeld ?_
 try simp only [Act.put,z2,List.set]
 refine tW 11 opAt11 hHeld ?_
 try simp only [Act.put,z2,List.set]
 refine tW 12 opAt12 hHeld ?_
 try simp only [Act.put,z2,List.set]
 refine tW 13 opAt13 hHeld ?_
 try simp only [Act.put,z2,List.set]
 refine tW 14 opAt14 hHeld ?_
 try simp only [Act.put,z2,List.set]
 refine tW 15 opAt15 hHeld ?_
 try simp only [Act.put,z2,List.set]
 refine tW 16 opAt16 hHeld ?_
 try simp only [Act.put,z2,List.set]
 refine tW 18 opAt18 hHeld ?_
 try simp only [Act.put,z2,List.set]
 refine tW 19 opAt19 hHeld ?_
 try simp only [Act.put,z2,List.set]
 refine tW 20 opAt20 hHeld ?_
 try simp only [Act.put,z2,List.set]
 refine tW 21 opAt21 hHeld ?_
 try simp only [Act.put,z2,List.set]
 refine wpAnyH_ready (rs:=[17]) (by kernel_rfl) (by simp) ?_
 refine AllReadyH.cons opAt17 (fun K hK=>?_) AllReadyH.nil
 go_simp
 (go_at_call 106;refine (starts_any (DD.out.kept (Kept.refl (fun _=>False) _).drew (fun f=>f) (fun f=>f))).mono ?_;rintro e w4 ⟨rfl,rfl⟩)
 refine hK.out _ _ ?_ (fun hHeld=>?_)
 ·exact hHeld
 clear hK K
 try simp only [Act.put,z2,List.set]
 refine tW 22 opAt22 hHeld ?_
 try simp only [Act.put,z2,List.set]
 refine tW 23 opAt23 hHeld ?_
 try simp only [Act.put,z2,List.set]
 refine tW 24 opAt24 hHeld ?_
 try simp only [Act.put,z2,List.set]
 refine wpAnyH_done (by kernel_rfl) ?_ _
 go_wp2
 go_ret
 exact ⟨rfl,(Kept.refl _ _).drew⟩
theorem jnumber_any (J:JrnOk w j d n)(D:DiskOk w d fm room F):Calls Tryz.prog 129 #[.pointer (some ⟨j,0,none⟩)] w fun e w'=>e = .returned (.int .i64 n)∧Kept (fun _=>False) w w':=by
 have x3:=J.c3
 have AS:=Lib.hid (jask_any J D)
 clear D J
 go_enter Tryz.func129,Tryz.ntmps129
 go_wp2_with (go_at_call 168;refine AS.out.mono ?_;rintro e w4 ⟨rfl,kk⟩;(have y3:=kk.cell x3 (fun f=>f)))
 go_ret
 exact ⟨rfl,kk⟩
end
end
/- The journal: the name of its first file. -/
section
open Go.RowKit
set_option maxRecDepth 100000

theorem small1 (w:World):Calls Tryz.prog 368 #[.int .i64 1] w fun e w'=>e = .returned (.string ⟨#[49]⟩)∧w=w':=by
 go_enter Tryz.func368,Tryz.ntmps368
 go_wp2
 go_ret
 exact ⟨by rfl,rfl⟩
theorem format1 (w:World):Calls Tryz.prog 333 #[.int .i64 1,.int .i64 10] w fun e w'=>e = .returned (.string ⟨#[49]⟩)∧w=w':=by
 go_enter Tryz.func333,Tryz.ntmps333
 go_wp2_with (go_at_call 368;refine (small1 _).mono ?_;rintro e w4 ⟨rfl,rfl⟩)
 go_ret
 exact ⟨rfl,rfl⟩
theorem itoa1 (w:World):Calls Tryz.prog 275 #[.int .i64 1] w fun e w'=>e = .returned (.string ⟨#[49]⟩)∧w=w':=by
 go_enter Tryz.func275,Tryz.ntmps275
 go_wp2_with (go_at_call 333;refine (format1 _).mono ?_;rintro e w4 ⟨rfl,rfl⟩)
 go_ret
 exact ⟨rfl,rfl⟩
theorem sitoa1 (w:World):Calls Tryz.prog 188 #[.int .i64 1] w fun e w'=>e = .returned (.string ⟨#[49]⟩)∧w=w':=by
 go_enter Tryz.func188,Tryz.ntmps188
 go_wp2_with (go_at_call 275;refine (itoa1 _).mono ?_;rintro e w4 ⟨rfl,rfl⟩)
 go_ret
 exact ⟨rfl,rfl⟩
/-- 'j1'. -/
def j1:ByteArray:=⟨#[106,49]⟩
theorem named1 (w:World):Calls Tryz.prog 171 #[.int .i64 1] w fun e w'=>e = .returned (.string j1)∧w=w':=by
 go_enter Tryz.func171,Tryz.ntmps171
 go_wp2_with (go_at_call 188;refine (sitoa1 _).mono ?_;rintro e w4 ⟨rfl,rfl⟩)
 go_ret
 exact ⟨rfl,rfl⟩
end
/- sums: one byte goes on, all bytes of a text. -/
section
open Go.RowKit
set_option maxRecDepth 100000

/-- A sum's parts, in their block. -/
structure PartsAt (w:World) (p:Nat) (a b:Int):Prop where
 c0:w.cell? ⟨p,0,none⟩=some (.int .i64 a)
 c1:w.cell? ⟨p,1,none⟩=some (.int .i64 b)
 f0:w.frozen? ⟨p,0,none⟩=false
 f1:w.frozen? ⟨p,1,none⟩=false
 a0:0≤a
 a1:a<65521
 b0:0≤b
 b1:b<65521
theorem PartsAt.kept {S:Nat→Prop}{w w':World}{p:Nat}{a b:Int}(h:PartsAt w p a b)(K:Kept S w w')(hS:¬ S p):PartsAt w' p a b:=
 have hl:=World.block_lt_of_cell? _ _ h.c0
 ⟨K.cell h.c0 hS,K.cell h.c1 hS,K.frozen h.f0 hl hS,K.frozen h.f1 hl hS,h.a0,h.a1,h.b0,h.b1⟩
set_option maxHeartbeats 4000000 in
theorem add_any {w:World}{p:Nat}{a b x:Int}(P:PartsAt w p a b)(x0:0≤x)(x1:x≤255):Calls Tryz.prog 361 #[.pointer (some ⟨p,0,none⟩),.int .u8 x] w fun e w'=>e = .returned (.tuple #[])∧(∃ a' b',PartsAt w' p a' b')∧Kept (fun q=>q=p) w w':=by
 obtain ⟨c0,c1,f0,f1,a0,a1,b0,b1⟩:=P
 have h1:IntKind.i64.wrap x=x:=by rw [IntKind.wrap_i64];omega
 have h2:IntKind.i64.wrap (a+x)=a+x:=by rw [IntKind.wrap_i64];omega
 have h3:Int.tmod (a+x) 65521=(a+x) % 65521:=Int.tmod_eq_emod_of_nonneg (by omega)
 obtain ⟨a',ha⟩:∃ a',(a+x) % 65521=a':=⟨_,rfl⟩
 have ha0:0≤a':=by omega
 have ha1:a'<65521:=by omega
 have h4:IntKind.i64.wrap a'=a':=by rw [IntKind.wrap_i64];omega
 rw [ha] at h3
 have h5:IntKind.i64.wrap (b+a')=b+a':=by rw [IntKind.wrap_i64];omega
 have h6:Int.tmod (b+a') 65521=(b+a') % 65521:=Int.tmod_eq_emod_of_nonneg (by omega)
 obtain ⟨b',hb⟩:∃ b',(b+a') % 65521=b':=⟨_,rfl⟩
 have hb0:0≤b':=by omega
 have hb1:b'<65521:=by omega
 have h7:IntKind.i64.wrap b'=b':=by rw [IntKind.wrap_i64];omega
 rw [hb] at h6
 have mixed:Tryz.prog.follows .mixedOrders=true:=by kernel_rfl
 clear ha hb
 go_enter Tryz.func361,Tryz.ntmps361
 go_wp2_with fail
 go_region_o
 all_goals go_wp2
 all_goals
  refine bodyPost_end (results_none rfl _ _ _) rfl ⟨rfl,⟨a',b',?_,?_,?_,?_,ha0,ha1,hb0,hb1⟩,(Kept.setAt (S:=fun q=>q=p) (fun _=>rfl) (Kept.setAt (fun _=>rfl) (Kept.refl _ _))).drew⟩
  all_goals simp [go_sem,c0,c1,f0,f1]
end
end Go.Proofs.YthknocapablpaaaGreatDoor
