/- A part of the proof. -/
import Derived.Test.YthknocapablpaaaGreatDoorProg
import Derived.Laws.Externs
import Derived.Test.YthknocapablpaaaGreatDoorAi5
import Derived.Test.YthknocapablpaaaGreatDoorAi17
import Derived.Test.YthknocapablpaaaGreatDoorAi18
import Derived.Test.YthknocapablpaaaGreatDoorAi24
import Derived.Test.YthknocapablpaaaGreatDoorAi30
namespace Go.Proofs.YthknocapablpaaaGreatDoor
/- spans.Name, as a summary. -/
section
open Go.RowKit Go.Lib Go.Eng

noncomputable section
def namS (args:List AV):Option AV:=match args with
 | [.str l]=>bif Nat.ble l.length 1000000 then some (.bool (nameB (bs l))) else none
 | _=>none
end

theorem Kept.eng {S:Nat→Prop}{w w':World}(h:Kept S w w'):Eng.Kept S w w':=⟨h.os,h.tape,h.output,h.size,h.block⟩

theorem nam_ok {η:Env}{args:List AV}{v:AV}(he:namS args=some v)(σ:Sig)(avs:List Value)(w:World)(ha:concs σ η args=some avs) :
  Calls Tryz.prog 76 avs.toArray w (fun e w'=>∃ u,e = .returned u∧conc σ η v=some u∧Eng.Kept (fun _=>False) w w'):=by
 unfold namS at he
 split at he
 rotate_left
 ·cases he
 rename_i l
 obtain ⟨sv,r,hs,hr,rfl⟩:=concs_cons.1 ha
 simp only [concs,Option.some.injEq] at hr
 subst hr
 obtain ⟨_,rfl⟩:=conc_str.1 hs
 cases hl:Nat.ble l.length 1000000 with
 | false=>simp [hl] at he
 | true=>
 simp only [hl,cond_true,Option.some.injEq] at he
 subst he
 have hl:=Nat.le_of_ble_eq_true hl
 refine Calls.mono (name_all (bs l) (by rw [bs_size];omega) w) ?_
 rintro e w' ⟨rfl,k⟩
 exact ⟨_,rfl,rfl,k.eng⟩

end
/- bytealg.IndexByteString, as a summary. -/
section
set_option maxRecDepth 100000
open Go.Eng

noncomputable section
def idxN (b:Nat):List Nat→Nat→Option Nat
 | [],_=>none
 | x::l,i=>bif Nat.beq x b then some i else idxN b l (i+1)
def idxS (args:List AV):Option AV:=match args with
 | [.str l,.int .u8 (.ofNat b)]=>bif Nat.ble b 255 then (match idxN b l 0 with
  | some i=>some (.int .i64 (.ofNat i))
  | none=>some (.int .i64 (.negSucc 0))) else none
 | _=>none
end

theorem find_idx {b:Nat}(hb:b<256):∀ (l:List Nat)(k:Nat),allB l=true→((List.range l.length).find? fun i=>((l.map Nat.toUInt8)[i]?).getD default == b.toUInt8).map (· + k)=idxN b l k
 | [],k,_=>rfl
 | x::l,k,h=>by
  obtain ⟨h1,h2⟩:=allB_cons.1 h
  have ih:=find_idx hb l (k+1) h2
  rw [List.length_cons,List.range_succ_eq_map,List.find?_cons]
  simp only [List.map_cons,List.getElem?_cons_zero,Option.getD_some,idxN]
  have e:(x.toUInt8 == b.toUInt8)=Nat.beq x b:=by
   rw [Bool.eq_iff_iff]
   constructor
   ·intro q;rw [(u8_inj h1 hb).1 (by simpa using q)];exact Nat.beq_refl b
   ·intro q;rw [Nat.eq_of_beq_eq_true q];simp
  rw [e]
  cases Nat.beq x b with
  | true=>simp
  | false=>
   simp only [cond_false,List.find?_map,Option.map_map]
   rw [← ih]
   congr 1
   funext i
   simp only [Function.comp]
   omega

theorem idx_ok {η:Env}{args:List AV}{v:AV}(he:idxS args=some v)(σ:Sig)(avs:List Value)(w:World)(ha:concs σ η args=some avs) :
  Leads Tryz.prog 379 avs.toArray w (fun e w'=>∃ u,e = .returned u∧conc σ η v=some u∧Eng.Kept (fun _=>False) w w'):=by
 unfold idxS at he
 split at he
 rotate_left
 ·cases he
 rename_i l b
 obtain ⟨sv,r,hs,hr,rfl⟩:=concs_cons.1 ha
 obtain ⟨bv,r2,hb,hr2,rfl⟩:=concs_cons.1 hr
 simp only [concs,Option.some.injEq] at hr2
 subst hr2
 obtain ⟨hl,rfl⟩:=conc_str.1 hs
 rw [conc_int] at hb
 subst hb
 cases hbb:Nat.ble b 255 with
 | false=>simp [hbb] at he
 | true=>
 simp only [hbb,cond_true] at he
 have hb:=Nat.le_of_ble_eq_true hbb
 have hx:∃ z,(idxN b l 0=some z∧firstIdx (bs l) b.toUInt8=(z:Int))∨(idxN b l 0=none∧firstIdx (bs l) b.toUInt8 = -1):=by
  have h0:=find_idx (b:=b) (by omega) l 0 hl
  have hm:(List.range (bs l).size).find? (fun i:Nat=>(bs l)[i]! == b.toUInt8)=idxN b l 0:=by
   rw [bs_size,← h0]
   have:(fun i:Nat=>(bs l)[i]! == b.toUInt8)=fun i:Nat=>((l.map Nat.toUInt8)[i]?).getD default == b.toUInt8:=by
    funext i
    rw [getElem!_def,bs_get,List.getElem?_map]
    cases l[i]? <;> rfl
   rw [this]
   cases (List.range l.length).find? _ <;> rfl
  unfold firstIdx
  rw [hm]
  cases idxN b l 0 with
  | some z=>exact ⟨z,.inl ⟨rfl,rfl⟩⟩
  | none=>exact ⟨0,.inr ⟨rfl,rfl⟩⟩
 have hrun:(callFunc 379 #[.string (bs l),.int .u8 (Int.ofNat b)]).run Tryz.prog w = .ok (.value (.int .i64 (firstIdx (bs l) b.toUInt8))) w:=by
  rw [run_callFunc_extern Tryz.func379 (by kernel_rfl) (by kernel_rfl) (by kernel_rfl) (e:=Extern.BytealgIndexByte.indexByte) (by kernel_rfl)]
  rw [run_indexByte_string]
  rfl
 obtain ⟨z,⟨h1,h2⟩ | ⟨h1,h2⟩⟩:=hx
 ·rw [h1] at he; cases he
  exact .inr ⟨_,w,hrun,_,rfl,by rw [h2];exact conc_int.2 rfl,Eng.Kept.refl _ _⟩
 ·rw [h1] at he; cases he
  exact .inr ⟨_,w,hrun,_,rfl,by rw [h2];exact conc_int.2 rfl,Eng.Kept.refl _ _⟩
end
/- The summaries of the library's functions that the runs lean on. -/
section
set_option maxRecDepth 100000
open Go.Eng

noncomputable section
def smV (n:Nat):Option (List AV→Option AV):=bif Nat.beq n 76 then some namS else bif Nat.beq n 379 then some idxS else none
def smF (n:Nat):Option (List AV→Heap→Nat→Option CRes):=bif Nat.beq n 250 then some copyS else bif Nat.beq n 68 then some nmsS else bif Nat.beq n 206 then some insS else none
def smAll:Sm:=⟨smV,smF⟩
/-- The same, and functions of a law's own. -/
def smMore (ex:Nat→Option (List AV→Heap→Nat→Option CRes)):Sm:=⟨smV,fun n=>match ex n with | some g=>some g | none=>smF n⟩
end

theorem mixed:Tryz.prog.follows .mixedOrders=true:=by kernel_rfl
theorem noGo:NoGo Tryz.prog=true:=by decide +kernel

theorem smV_ok {η:Env}(f:Nat)(g:List AV→Option AV)(h:smV f=some g)(args:List AV)(v:AV)(hv:g args=some v)(σ:Sig)(avs:List Value)(w:World)(ha:concs σ η args=some avs):Leads Tryz.prog f avs.toArray w (fun e w'=>∃ u,e = .returned u∧conc σ η v=some u∧Eng.Kept (fun _=>False) w w'):=by
 unfold smV at h
 cases e:Nat.beq f 76 with
 | true=>
  simp only [e,cond_true,Option.some.injEq] at h
  subst h
  have:=Nat.eq_of_beq_eq_true e
  subst this
  exact leads_of noGo Tryz.func76 (by kernel_rfl) (nam_ok hv σ avs w ha)
 | false=>
  simp only [e,cond_false] at h
  cases e2:Nat.beq f 379 with
  | true=>
   simp only [e2,cond_true,Option.some.injEq] at h
   subst h
   have:=Nat.eq_of_beq_eq_true e2
   subst this
   exact idx_ok hv σ avs w ha
  | false=>simp [e2] at h

theorem smF_ok {η:Env}(f:Nat)(g:List AV→Heap→Nat→Option CRes)(hg:smF f=some g)(args:List AV)(h:Heap)(c:Nat)(v:AV)(h':Heap)(c':Nat)(he:g args h c=some (.mk v h' c'))(σ:Sig)(w:World)(avs:List Value)(H:HR Tryz.prog σ η h c w)(ha:concs σ η args=some avs):Leads Tryz.prog f avs.toArray w (Done Tryz.prog η σ h c w v h' c'):=by
 unfold smF at hg
 cases e:Nat.beq f 250 with
 | true=>
  simp only [e,cond_true,Option.some.injEq] at hg
  subst hg
  have:=Nat.eq_of_beq_eq_true e
  subst this
  exact leads_of noGo Tryz.func250 (by kernel_rfl) (copy_ok he H ha)
 | false=>
  simp only [e,cond_false] at hg
  cases e2:Nat.beq f 68 with
  | true=>
   simp only [e2,cond_true,Option.some.injEq] at hg
   subst hg
   have:=Nat.eq_of_beq_eq_true e2
   subst this
   exact leads_of noGo Tryz.func68 (by kernel_rfl) (nms_ok he H ha)
  | false=>
   simp only [e2,cond_false] at hg
   cases e3:Nat.beq f 206 with
   | true=>
    simp only [e3,cond_true,Option.some.injEq] at hg
    subst hg
    have:=Nat.eq_of_beq_eq_true e3
    subst this
    exact leads_of noGo Tryz.func206 (by kernel_rfl) (ins_ok he H ha)
   | false=>simp [e3] at hg

theorem smAll_ok {η:Env}:SmOk Tryz.prog η smAll:=⟨smV_ok,smF_ok⟩
end
/- The run of Opened: the states at its ends. -/
section
open Go.Eng
noncomputable def pOp:List Code:=match Tryz.f11.body with | some b=>flat b [] | none=>[]
noncomputable def hOp0:Heap:=(.node none (.node (some (.ro 265 [.sym 1])) N N) N)
noncomputable def mOp:Tmps:=(.node (some (.ptr 7 0)) (.node (some (.ptr 77 0)) (.node (some (I 0)) (.node (some (.tup [.ptr 7 0,I 0])) (.node (some (.ptr 77 0)) N N) N) (.node (some (.bool false)) (.node
 (some (.ptr 7 0)) N N) N)) (.node (some (I 0)) (.node (some (I 0)) (.node (some (I 0)) N N) N) (.node (some (.ptr 7 0)) N N))) (.node (some (.ptr 7 0)) (.node (some (.ptr 77 0))
 (.node (some (.ptr 7 0)) (.node (some (I 0)) N N) N) (.node (some (.tup [.ptr 77 0,I 0])) (.node (some (.ptr 77 0)) N N) N)) (.node (some (.tup [.ptr 7 0,I 0])) (.node (some
 (I 0)) (.node (some (.bool false)) N N) N) (.node (some (.tup [.ptr 77 0,I 0])) N N))))
noncomputable def hOp:Heap:=(.node none (.node (some (.ro 265 [.sym 1])) (.node none (.node (some (.cells 112 [I 1048576,I 0,.bool false,.map 6,.nilf,.nils])) N N) (.node none (.node none (.node none
 (.node (some (.cells 199 [.ptr 7 0,I 0,.bool false,I 1])) N N) N) N) (.node none N (.node none (.node (some (.cells 127 [.ptr 89 0])) N N) N)))) (.node none (.node none N
 (.node none N (.node none (.node (some (.cells 208 [.bool true,.nils])) N N) N))) (.node (some (.cells 195 [.ptr 7 0,I 0,.bool false,.slice 12 0 1 1 false,I 1,I 2,I 13]))
 N (.node none (.node none (.node (some (.cells 126 [.ptr 7 0,.ptr 13 0,.ptr 67 0,.slice 91 0 1 1 true,.map 76,I 0])) N N) N) N)))) (.node none (.node none N (.node (some
 (.cells 215 [.str [],.nils])) N (.node none (.node none (.node (some (.map [] 0)) N N) N) N))) (.node (some (.map [(.str [109],.agg [.str [2,0,5,1,2,1,0,0,0,21,0,5,
 3],I 13],1)] 2)) N N)))
end
/- The run of 22: the states between its pieces. -/
section
open Go.Eng
noncomputable def p22:List Code:=match Tryz.f10.body with | some b=>flat b [] | none=>[]
noncomputable def h22_0:Heap:=(.node none (.node (some (.ro 265 [.sym 1])) N N) N)
noncomputable def m22_0:Tmps:=N
noncomputable def m22_1:Tmps:=(.node (some (.bool false)) (.node (some (.ptr 7 0)) (.node (some (.ptr 129 0)) (.node none N (.node (some (.agg [I 0,I 5,.slice 128 0 2 2 false])) N N)) (.node none (.node
 (some (.ptr 77 0)) N N) (.node (some (.tup [.agg [I 0,I 5,I 7],I 2,I 0])) N N))) (.node (some (I 2)) (.node none (.node (some (.tup [.ptr 7 0,.ptr 77 0])) N N) (.node (some
 (.ptr 77 0)) N N)) (.node none (.node (some (.bool false)) N N) (.node (some (I 2)) N N)))) (.node (some (.ptr 77 0)) (.node (some (.ptr 634 0)) (.node none (.node (some (.tup
 [.ptr 7 0,.ptr 77 0])) N N) (.node (some (.tup [.agg [I 0,I 5,I 7],I 2,I 0])) N N)) (.node none (.node (some (.ptr 77 0)) N N) (.node (some (.agg [I 0,I 5,I 7])) N N)))
 (.node (some (I 0)) (.node none (.node (some (.ptr 7 0)) N N) (.node (some (.agg [I 0,I 5,.slice 128 0 2 2 false])) N N)) (.node none (.node (some (.slice 128 0 2 2 false)) N
 N) (.node (some (I 0)) N N)))))
noncomputable def h22_1:Heap:=(.node none (.node (some (.ro 265 [.sym 1])) (.node none (.node (some (.cells 112 [I 1048576,I 0,.bool false,.map 6,.nilf,.nils])) N N) (.node none (.node none (.node none
 (.node (some (.cells 199 [.ptr 7 0,I 0,.bool false,I 1])) N N) N) N) (.node none N (.node none (.node (some (.cells 127 [.ptr 89 0])) N N) N)))) (.node none (.node none
 (.node none (.node none (.node none (.node (some (.cells 34 [I 0,I 5,.slice 128 0 2 2 false])) (.node none (.node (some (.cells 305 [.slice 633 0 4 4 true])) N N) N) N) N) N)
 N) (.node none N (.node none (.node (some (.cells 208 [.bool true,.slice 513 0 1 1 false])) N N) (.node none N (.node none (.node none (.node (some (.cells 132 [.str [115,0,0,
  0,0,0,0,0,3,0,0,0,0,0,0,0,1],I 1,.str [3,1,0,10,0,1,97,1,104,0],.str [115,0,0,0,0,0,0,0,3,0,0,0,0,0,0,0,2],I 3,.str [3,2,1,11,0,
 1,97,1,104,0],.str [120,97,0,104,0,0,0,0,0,0,0,0,10,0,0,0,0,0,0,0,3,0,0,0,0,0,0,0,1],I 2,.str [],.str [120,97,0,104,0,0,0,0,0,0,0,
 0,11,0,0,0,0,0,0,0,3,0,0,0,0,0,0,0,2],I 4,.str []])) N N) N) N))))) (.node (some (.cells 195 [.ptr 7 0,I 0,.bool false,.slice 12 0 1 1 false,I 1,I 2,I
 13])) N (.node none (.node none (.node (some (.cells 126 [.ptr 7 0,.ptr 13 0,.ptr 67 0,.slice 91 0 1 1 true,.map 76,I 4])) N N) N) N)))) (.node none (.node none (.node none
 (.node none (.node none (.node none (.node (some (.cells 96 [I 3,I 1,I 0,.str [97],.str [104],I 10,I 0,.str [],I 3,I 2,I 1,.str [97],.str [104],I 11,I 0,.str
 []])) N N) N) N) N) N) (.node (some (.cells 215 [.str [],.nils])) N (.node none (.node none (.node (some (.map [] 0)) N N) N) N))) (.node (some (.map [(.str [109],.agg [.str
 [2,0,5,1,2,1,0,0,0,21,0,5,3],I 13],1),(.str [106,49],.agg [.str [2,0,124,17,115,0,0,0,0,0,0,0,3,0,0,0,0,0,0,0,1,1,10,3,1,0,10,0,1,
 97,1,104,0,29,120,97,0,104,0,0,0,0,0,0,0,0,10,0,0,0,0,0,0,0,3,0,0,0,0,0,0,0,1,2,0,17,115,0,0,0,0,0,0,0,3,0,0,0,0,0,0,0,2,3,
 10,3,2,1,11,0,1,97,1,104,0,29,120,97,0,104,0,0,0,0,0,0,0,0,11,0,0,0,0,0,0,0,3,0,0,0,0,0,0,0,2,4,0,134,46,5,191,3],I 132],2)] 3))
 (.node none N (.node none N (.node none N (.node none N (.node none (.node none (.node (some (.cells 38 [I 0,I 5,I 7])) N N) N) N))))) N)))
noncomputable def m22_2:Tmps:=(.node (some (.bool true)) (.node (some (.ptr 7 0)) (.node (some (.ptr 129 0)) (.node (some (.ptr 985 0)) (.node (some (I 2)) (.node (some (.tup [.agg [I 0,I 5,I 7],I 0,I 0]))
 (.node (some (.bool true)) N N) N) (.node (some (.slice 990 0 2 2 false)) (.node (some (.bool true)) N N) N)) (.node (some (.agg [I 0,I 5,.slice 128 0 2 2 false])) (.node
 (some (.ptr 77 0)) (.node (some (.bool true)) N N) N) (.node (some (.bool true)) (.node (some (.slice 1168 0 2 2 true)) N N) N))) (.node (some (I 0)) (.node (some (.ptr 77 0))
 (.node (some (.agg [I 0,I 5,I 7])) (.node (some (.bool true)) N N) N) (.node (some (I 0)) (.node (some (.bool true)) N N) N)) (.node (some (.tup [.agg [I 0,I 5,I 7],I 2,I
 0])) (.node (some (I 0)) (.node (some (.bool true)) N N) N) (.node (some (.bool true)) N N)))) (.node (some (I 2)) (.node (some (I 0)) (.node (some (.tup [.ptr 7 0,.ptr 77 0]))
 (.node (some (.agg [I 0,I 5,.slice 128 0 2 2 false])) (.node (some (.agg [I 0,I 5,I 7])) N N) N) (.node (some (.tup [.agg [I 0,I 0,I 0],I 0,I 2])) (.node (some (.bool
 true)) N N) N)) (.node (some (.ptr 77 0)) (.node (some (.tup [.agg [I 0,I 0,I 0],I 0,I 3])) (.node (some (.bool true)) N N) N) (.node (some (I 2)) (.node (some (.bool true))
 N N) N))) (.node (some (.ptr 994 0)) (.node (some (.bool false)) (.node (some (I 0)) (.node (some (.bool true)) N N) N) (.node (some (.agg [I 0,I 5,I 7])) (.node (some (.bool
 true)) N N) N)) (.node (some (I 2)) (.node (some (.tup [.agg [I 0,I 0,I 0],I 0,I 2])) (.node (some (.bool true)) N N) N) (.node (some (I 0)) N N))))) (.node (some (.ptr 77
 0)) (.node (some (.ptr 634 0)) (.node (some (I 0)) (.node (some (.tup [.ptr 7 0,.ptr 77 0])) (.node (some (.ptr 77 0)) (.node (some (.bool true)) N N) N) (.node (some (.agg [I
 4,I 0,.slice 990 0 2 2 false])) (.node (some (.bool true)) N N) N)) (.node (some (.tup [.agg [I 0,I 5,I 7],I 2,I 0])) (.node (some (.agg [I 0,I 0,.nils])) (.node (some
 (.bool true)) N N) N) (.node (some (.bool true)) (.node (some (I 2)) N N) N))) (.node (some (I 3)) (.node (some (.ptr 77 0)) (.node (some (I 0)) (.node (some (.bool true)) N N)
 N) (.node (some (I 2)) (.node (some (.bool true)) N N) N)) (.node (some (.agg [I 0,I 5,I 7])) (.node (some (I 3)) (.node (some (.bool true)) N N) N) (.node (some (.bool true))
 N N)))) (.node (some (I 0)) (.node (some (.ptr 989 0)) (.node (some (.ptr 7 0)) (.node (some (.tup [.agg [I 0,I 5,I 7],I 0,I 0])) (.node (some (.agg [I 0,I 5,I 7])) N N)
 N) (.node (some (.agg [I 0,I 0,I 0])) (.node (some (I 2)) N N) N)) (.node (some (.agg [I 0,I 5,.slice 128 0 2 2 false])) (.node (some (.agg [I 0,I 0,I 0])) (.node (some (I
 0)) N N) N) (.node (some (.bool true)) (.node (some (.bool true)) N N) N))) (.node (some (I 0)) (.node (some (.slice 128 0 2 2 false)) (.node (some (.tup [.agg [I 0,I 0,I 0],
 I 0,I 3])) (.node (some (I 0)) N N) N) (.node (some (.agg [I 0,I 5,I 7])) (.node (some (.ptr 77 0)) N N) N)) (.node (some (I 0)) (.node (some (.ptr 77 0)) (.node (some (I 3))
 N N) N) (.node (some (.bool true)) N N))))))
noncomputable def h22_2:Heap:=(.node none (.node (some (.ro 265 [.sym 1])) N N) N)
end
end Go.Proofs.YthknocapablpaaaGreatDoor
