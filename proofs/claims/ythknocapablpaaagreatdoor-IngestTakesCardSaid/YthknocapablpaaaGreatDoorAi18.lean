/- A part of the proof. -/
import Derived.Test.YthknocapablpaaaGreatDoorProg
import Derived.Lib.Builder
import Derived.Lib.Walk
import Derived.Laws.Externs
import Derived.Shelf.Strings.Builder1
import Derived.Test.YthknocapablpaaaGreatDoorAi1
import Derived.Test.YthknocapablpaaaGreatDoorAi17
namespace Go.Proofs.YthknocapablpaaaGreatDoor
/- (*strings.Builder).copyCheck, as a summary. -/
section
set_option maxRecDepth 100000
open Go.RowKit Go.Lib Go.Eng

set_option maxHeartbeats 1000000 in
theorem copy_used (b o:Nat)(w:World)(h0:w.cell? ⟨b,o,none⟩=some (.pointer (some ⟨b,o,none⟩))) :
  Calls Tryz.prog 250 #[.pointer (some ⟨b,o,none⟩)] w fun e w'=>e = .returned (.tuple #[])∧w'=w:=by
 obtain ⟨j,hj,hjs⟩:∃ j,Tryz.prog.info? 263=some j∧j.size=2:=⟨_,rfl,rfl⟩
 go_enter Tryz.func250,Tryz.ntmps250
 go_wp2
 rw [Lib.run_neq_ptr_same w _ Tryz.underlying261 hj]
 go_wp2
 go_end0
 exact ⟨rfl,rfl⟩

set_option maxHeartbeats 1000000 in
theorem copy_fresh (b o k:Nat)(w:World)(h0:w.cell? ⟨b,o,none⟩=some (.pointer none))(hsh:w.shape? b=some (263,k))(ho:o<k)(hl:liesAt Tryz.prog Tryz.prog.depth 263 (k / Tryz.prog.cellsOf 263) o 263 1=true)(hfz:w.frozen? ⟨b,o,none⟩=false) :
  Calls Tryz.prog 250 #[.pointer (some ⟨b,o,none⟩)] w fun e w'=>e = .returned (.tuple #[])∧w'=w.setCell ⟨b,o,none⟩ (.pointer (some ⟨b,o,none⟩)):=by
 obtain ⟨j,hj,hjs⟩:∃ j,Tryz.prog.info? 263=some j∧j.size=2:=⟨_,rfl,rfl⟩
 go_enter Tryz.func250,Tryz.ntmps250
 go_wp2
 rw [Lib.run_to_unsafe w ⟨b,o,none⟩ Tryz.underlying261 Tryz.underlying413 hj (by rw [hjs];decide) hsh ho]
 simp only [Result.andThen]
 rw [Oper.upon_value]
 go_wp2
 rw [run_callFunc_extern Tryz.func322 (by kernel_rfl) (by kernel_rfl) (by kernel_rfl) (e:=Extern.AbiNoEscape.same) (by kernel_rfl)]
 rw [Lib.run_noEscape]
 simp only [Result.andThen]
 rw [Oper.upon_value]
 go_wp2
 rw [Lib.run_from_unsafe w ⟨b,o,none⟩ Tryz.underlying413 Tryz.underlying261 hj hsh hl]
 simp only [Result.andThen]
 rw [Oper.upon_value]
 go_wp2
 go_end0
 exact ⟨rfl,rfl⟩

theorem builder_lies (k o:Nat)(hk:o+2≤k)(ho:o % 2=0):liesAt Tryz.prog Tryz.prog.depth 263 (k / Tryz.prog.cellsOf 263) o 263 1=true:=by
 have hc:Tryz.prog.cellsOf 263=2:=by kernel_rfl
 obtain ⟨d,hd⟩:∃ d,Tryz.prog.depth=d+1:=⟨_,rfl⟩
 have hs:sameLayout Tryz.prog Tryz.prog.depth 263 263=true:=by rw [hd];simp [sameLayout]
 rw [hc]
 unfold liesAt
 rw [hd]
 simp only
 rw [← hd]
 have:rowAt Tryz.prog (fun x=>sameLayout Tryz.prog Tryz.prog.depth x 263) Tryz.prog.depth 263 (k / 2) o 1=true:=by
  rw [hd]
  unfold rowAt
  simp only [hc]
  rw [← hd,hs,ho]
  have:o / 2+1≤k / 2:=by omega
  simp [this]
 rw [this]
 rfl

noncomputable section
/-- The builder's first cell is its own address. -/
def copyS (args:List AV)(h:Heap)(c:Nat):Option CRes:=match args with
 | [.ptr n 0]=>match h.get n with
  | some (.cells t [p, v]) => bif Nat.beq t 263 then
    match p with
    | .nilp=>match putObj h n (some (.cells t [.ptr n 0,v])) fun h=>some (.val uv h c) with
     | some (.val u h c)=>some (.mk u h c)
     | _=>none
    | .ptr m 0=>bif Nat.beq n m then some (.mk uv h c) else none
    | _=>none
   else none
  | _=>none
 | _=>none
end

theorem copy_ok {η:Env}{args:List AV}{h:Heap}{c:Nat}{v:AV}{h':Heap}{c':Nat}(he:copyS args h c=some (.mk v h' c')){σ:Sig}{w:World}{avs:List Value}(H:HR Tryz.prog σ η h c w)(ha:concs σ η args=some avs):Calls Tryz.prog 250 avs.toArray w (Done Tryz.prog η σ h c w v h' c'):=by
 unfold copyS at he
 split at he
 rotate_left
 ·cases he
 rename_i n
 obtain ⟨pv,rs,hp,hr,rfl⟩:=concs_cons.1 ha
 simp only [concs,Option.some.injEq] at hr
 subst hr
 obtain ⟨l,hl,rfl⟩:=conc_ptr.1 hp
 split at he
 rotate_left
 ·cases he
 rename_i t p v0 hg
 cases ht:Nat.beq t 263 with
 | false=>simp [ht] at he
 | true=>
 simp only [ht,cond_true] at he
 have ht:=Nat.eq_of_beq_eq_true ht
 subst ht
 obtain ⟨l',hl',ob⟩:=H.obj n _ hg
 rw [hl] at hl'
 cases hl'
 obtain ⟨C,fr,vs,k1,k2,k3,k4,k5,k6,k7⟩:=ob
 obtain ⟨u,us,q1,q2,rfl⟩:=concs_cons.1 k3
 obtain ⟨u2,us2,q3,q4,rfl⟩:=concs_cons.1 q2
 simp only [concs,Option.some.injEq] at q4
 subst q4
 have hcell:w.cell? ⟨l.blk,l.off,none⟩=some u:=by
  simp only [World.cell?,k1]
  simpa using k5 0 u rfl
 have hc2:Tryz.prog.cellsOf 263=2:=by kernel_rfl
 rw [hc2] at k7
 simp only [List.length_cons,List.length_nil] at k6
 split at he
 ·simp only [conc, Option.some.injEq] at q1
  subst q1
  unfold putObj at he
  cases hb:Nat.ble n bigN with
  | false=>simp [hb] at he
  | true=>
  simp only [hb,cond_true,setK_eq,Option.some.injEq,CRes.mk.injEq] at he
  obtain ⟨rfl,rfl,rfl⟩:=he
  have hf:w.frozen? ⟨l.blk,l.off,none⟩=false:=by
   simp only [World.frozen?,k1]
   simpa using k2 l.off (Nat.lt_of_lt_of_le (by omega) lim_le)
  refine Calls.mono (copy_fresh l.blk l.off C.size w hcell (by simp only [World.shape?,k1]) (by omega) (builder_lies _ _ (by omega) k7) hf) ?_
  rintro e w' ⟨rfl,rfl⟩
  refine ⟨_,σ,rfl,rfl,?_⟩
  have hlay:lay? [.nilp,v0] 0 [.ptr n 0]=some [.ptr n 0,v0]:=rfl
  obtain ⟨w1,r1,wt⟩:=lay_ok H (cells?_iff.2 hg) (Nat.le_of_ble_eq_true hb) hl hlay (concs_cons.2 ⟨_,[],hp,rfl,rfl⟩) rfl
  simp only [storeCells,Sem.run_bind,Addr.add_zero',Nat.add_zero] at r1
  rw [run_store _ _ _ _ _ rfl] at r1
  simp only [hcell,hf,Bool.false_eq_true,if_false,Result.andThen_ok,Sem.run_pure,Result.ok.injEq,true_and] at r1
  rw [← r1] at wt
  exact wt
 ·rename_i m
  cases hb:Nat.beq n m with
  | false=>simp [hb] at he
  | true=>
  simp only [hb,cond_true,Option.some.injEq,CRes.mk.injEq] at he
  have:=Nat.eq_of_beq_eq_true hb
  subst this
  obtain ⟨rfl,rfl,rfl⟩:=he
  obtain ⟨l2,hl2,rfl⟩:=conc_ptr.1 q1
  rw [hl] at hl2
  cases hl2
  refine Calls.mono (copy_used l.blk l.off w hcell) ?_
  rintro e w' ⟨rfl,rfl⟩
  exact ⟨_,σ,rfl,rfl,Went.refl H⟩
 ·cases he

end
end Go.Proofs.YthknocapablpaaaGreatDoor
