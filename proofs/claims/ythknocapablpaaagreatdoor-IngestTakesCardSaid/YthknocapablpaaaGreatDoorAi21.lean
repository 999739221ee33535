/- A part of the proof. -/
import Derived.Test.YthknocapablpaaaGreatDoorAi2
import Derived.Test.YthknocapablpaaaGreatDoorAi4
import Derived.Test.YthknocapablpaaaGreatDoorAi20
namespace Go.Proofs.YthknocapablpaaaGreatDoor
/- rows.Expired of any span; rows.Take of spans that may be, whatever is there: its parts. -/
section
set_option maxRecDepth 100000
open Go.RowKit Go.MapKept Go.Instr Go.ChangeMaps

instance baLawful:LawfulBEq ByteArray:={
 eq_of_beq:=fun {a b} h=>of_decide_eq_true ((ba_beq a b).symm.trans h)
 rfl:=fun {a}=>(ba_beq a a).trans (decide_eq_true rfl) }
theorem own_kept {S:Nat→Prop}{w w':World}{base e size:Nat}{v:Value}{n:Nat}{xs:List Value}(h:w.ownsRow base e size v n xs)(hK:Kept S w w')(hv:∀ b,v.ownBlock=some b→¬ S b):w'.ownsRow base e size v n xs:=by
 obtain ⟨h1,h2⟩:=h
 refine ⟨h1,?_⟩
 rcases h2 with h2 | ⟨g,cap,cur,rfl,hb,hg,rest⟩
 ·exact .inl h2
 ·exact .inr ⟨g,cap,cur,rfl,hb,(hK.block g (Array.getElem?_eq_some_iff.1 hg).1 (hv g rfl)).trans hg,rest⟩
theorem own_from {w:World}{base e size:Nat}{v:Value}{n:Nat}{xs:List Value}(h:w.ownsRow base e size v n xs){q:Nat}(hq:v.ownBlock=some q):base≤q:=by
 rcases h.2 with ⟨rfl,_⟩ | ⟨g,cap,cur,rfl,hb,_⟩
 ·cases hq
 ·cases hq;exact hb
theorem own_slice {w:World}{base e size:Nat}{v:Value}{n:Nat}{xs:List Value}(h:w.ownsRow base e size v n xs):∃ a c,v = .slice a n c:=by
 rcases row_form h with ⟨h1,h2⟩ | ⟨g,c,h1,_⟩
 ·exact ⟨none,0,by rw [h1,h2]⟩
 ·exact ⟨_,_,h1⟩
theorem own_block {w:World}{base e size:Nat}{v:Value}{n:Nat}{xs:List Value}(h:w.ownsRow base e size v n xs){q:Nat}(hq:v.ownBlock=some q):∃ cur,w.heap[q]? = some (.cells cur e (0,0)):=by
 rcases h.2 with ⟨rfl,_⟩ | ⟨g,cap,cur,rfl,_,hg,_⟩
 ·cases hq
 ·cases hq;exact ⟨cur,hg⟩
theorem own_lt2 {w:World}{base e size:Nat}{v:Value}{n:Nat}{xs:List Value}(h:w.ownsRow base e size v n xs){q:Nat}(hq:v.ownBlock=some q):q<w.heap.size:=by
 obtain ⟨cur,hc⟩:=own_block h hq
 exact (Array.getElem?_eq_some_iff.1 hc).1
theorem own_types {w:World}{b b' e e' s s':Nat}{v v':Value}{n n':Nat}{xs xs':List Value}(h:w.ownsRow b e s v n xs)(h':w.ownsRow b' e' s' v' n' xs')(hne:¬ e=e'){q:Nat}(hq:v.ownBlock=some q):¬ v'.ownBlock=some q:=fun hq'=>by
 obtain ⟨c,h1⟩:=own_block h hq
 obtain ⟨c',h2⟩:=own_block h' hq'
 rw [h1] at h2
 cases h2
 exact hne rfl
theorem own_map {w:World}{base e size:Nat}{v:Value}{n:Nat}{xs:List Value}{b:Nat}{L:List KV}(h:w.ownsRow base e size v n xs)(hm:MapIs w b L):¬ v.ownBlock=some b:=fun hq=>by
 obtain ⟨c,h1⟩:=own_block h hq
 unfold MapIs at hm
 rw [h1] at hm
 cases hm

def lateB (st now:Int):Bool:=decide (60≤now - st)
theorem late_all (st now:Int)(h0:0≤st)(h3:now≤9223372036854775807)(h4:st≤9223372036854775807)(w:World):Calls Tryz.prog 85 #[.int .i64 st,.int .i64 now] w fun e w'=>e = .returned (.bool (lateB st now))∧w=w':=by
 by_cases h:st≤now
 ·go_enter Tryz.func85, Tryz.ntmps85
  go_wp2
  go_ret
  exact ⟨by unfold lateB;rfl,rfl⟩
 ·go_enter Tryz.func85, Tryz.ntmps85
  go_wp2
  go_ret
  have e:lateB st now=false:=by unfold lateB;simp;omega
  exact ⟨by rw [e];rfl,rfl⟩
theorem expired_all (m:Spn)(now:Int)(h0:0≤m.st)(h3:now≤9223372036854775807)(h4:m.st≤9223372036854775807)(w:World):Calls Tryz.prog 40 #[aggS m,.int .i64 now] w fun e w'=>e = .returned (.bool (lateB m.st now))∧Kept (fun _=>False) w w':=by
 have L:=Lib.hid (late_all m.st now h0 h3 h4)
 unfold aggS
 go_enter Tryz.func40,Tryz.ntmps40
 go_wp2_with (go_at_call 85;refine (L.out _).mono ?_;rintro e w4 ⟨rfl,rfl⟩)
 go_ret
 exact ⟨rfl,(Kept.refl _ w).alloc _⟩

/-- Keys, each seen once. -/
def seenV (K:List ByteArray):List KV:=K.map fun k=>(k,.int .i64 1)
theorem idx_seen (k:ByteArray):∀ K:List ByteArray,(idxL k (seenV K)).isSome=decide (k∈K)
 | []=>by simp [seenV,idxL]
 | x::t=>by
  have ih:=idx_seen k t
  unfold seenV at ih ⊢
  simp only [List.map_cons,idxL]
  by_cases e:k=x
  ·simp [e]
  ·simp only [e,if_false,Option.isSome_map,ih,List.mem_cons,false_or]
def oneN:Bool→Int | true=>1 | false=>0
theorem old_seen (k:ByteArray)(K:List ByteArray):oldL k (.int .i64 0) (seenV K) = .int .i64 (oneN (decide (k∈K))):=by
 have h:=idx_seen k K
 unfold oldL
 cases hi:idxL k (seenV K) with
 | none=>rw [hi] at h;rw [← h];rfl
 | some j=>
  rw [hi] at h;rw [← h]
  obtain ⟨p,hp,_⟩:=idxL_some hi
  have:p.2 = .int .i64 1:=by
   unfold seenV at hp
   rw [List.getElem?_map] at hp
   cases hk:K[j]? with
   | none=>simp [hk] at hp
   | some y=>simp [hk] at hp;rw [← hp]
  simp [hp,this,oneN]
theorem put_seen {k:ByteArray}{K:List ByteArray}(h:decide (k∈K)=false):putK k (.int .i64 1) (seenV K)=seenV (K++[k]):=by
 have h2:=idx_seen k K
 rw [h] at h2
 unfold putK
 rw [h2]
 simp [seenV]
theorem look_seen {w:World}{b:Nat}{K:List ByteArray}(h:MapIs w b (seenV K))(k:ByteArray):(Instr.lookup 174 (.map (some b)) (.string k) false).run Tryz.prog w = .ok (.int .i64 (oneN (decide (k∈K)))) w:=by
 have h2:=lookN h k
 rw [old_seen] at h2
 exact h2
theorem upd_seen {w:World}{b:Nat}{K:List ByteArray}(h:MapIs w b (seenV K)){k:ByteArray}(hk:decide (k∈K)=false):∃ w',(Instr.mapUpdate 174 (.map (some b)) (.string k) (.int .i64 1)).run Tryz.prog w = .ok () w'∧MapIs w' b (seenV (K++[k]))∧Kept (fun q=>q=b) w w':=by
 have h2:=putN h k (.int .i64 1)
 rw [put_seen hk] at h2
 refine ⟨_,h2,MapIs.set h.lt,⟨rfl,rfl,rfl,by simp [setBlock],fun q hq hS=>?_⟩⟩
 simp only [setBlock]
 have:b≠q:=fun e=>hS e.symm
 simp [Array.getElem?_setIfInBounds_ne this]

/-- A span's key. -/
def keyS (m:Spn):ByteArray:=keyF m.tr m.id
/-- The spans of a list that are taken: none that is late, that was ahead, or that is there. -/
def takeR (now:Int)(oldB:ByteArray→Bool):List Spn→List ByteArray→List Spn
 | [],_=>[]
 | m::t,K=>match lateB m.st now || decide (keyS m∈K) || oldB (keyS m) with
  | true=>takeR now oldB t K
  | false=>m::takeR now oldB t (K++[keyS m])
def cellsT:List Spn→List Value
 | []=>[]
 | m::t=>cellsOfS m++cellsT t
theorem cellsT_append:∀ a b,cellsT (a++b)=cellsT a++cellsT b
 | [],b=>rfl
 | m::t,b=>by simp [cellsT,cellsT_append t b]

/-- What a round rests upon: the span, its cells, the keys that were seen, and what was taken. -/
structure Mid (w:World) (base ns g b:Nat) (m:Spn) (K:List ByteArray) (vo vc:Value) (O:List Spn):Prop where
 span:SpanAt w ns m
 two:∀ j u,(cellsOfS m)[j]? = some u→w.cell? ⟨g,j,none⟩=some u
 map:MapIs w b (seenV K)
 out:w.ownsRow base 96 8 vo O.length (cellsS O)
 cells:w.ownsRow base 132 3 vc (2 * O.length) (cellsT O)
 far:∀ q,vo.ownBlock=some q→¬ q=g
theorem Mid.keptF {w w':World}{base ns g b:Nat}{m:Spn}{K:List ByteArray}{vo vc:Value}{O:List Spn}(h:Mid w base ns g b m K vo vc O)(k:Kept (fun _=>False) w w'):Mid w' base ns g b m K vo vc O:=
 ⟨h.span.keptF k,fun j u hu=>k.cell (h.two j u hu) (fun f=>f),h.map.kept k (fun f=>f),own_kept h.out k (fun _ _ f=>f),own_kept h.cells k (fun _ _ f=>f),h.far⟩
theorem cell_ne_map {w:World}{q j b:Nat}{u:Value}{L:List KV}(h:w.cell? ⟨q,j,none⟩=some u)(hm:MapIs w b L):¬ q=b:=fun e=>by
 have:=hm.not_cell (j:=j)
 rw [← e,h] at this
 cases this
theorem Mid.seen {w w':World}{base ns g b:Nat}{m:Spn}{K K':List ByteArray}{vo vc:Value}{O:List Spn}(h:Mid w base ns g b m K vo vc O)(k:Kept (fun q=>q=b) w w')(hm:MapIs w' b (seenV K')):Mid w' base ns g b m K' vo vc O:=
 ⟨h.span.kept k (cell_ne_map (h.span 0 _ rfl) h.map),fun j u hu=>k.cell (h.two j u hu) (cell_ne_map (h.two j u hu) h.map),hm,own_kept h.out k (fun _ hq e=>own_map h.out h.map (e ▸ hq)),own_kept h.cells k (fun _ hq e=>own_map h.cells h.map (e ▸ hq)),h.far⟩
theorem drop_step {L:List Spn}{i:Nat}{m:Spn}(h:L[i]? = some m):m::L.drop (i+1)=L.drop i:=by
 obtain ⟨hl,e⟩:=List.getElem?_eq_some_iff.1 h
 rw [← e];exact (List.drop_eq_getElem_cons hl).symm
theorem inf111:(Tryz.prog.info? 96).map (fun i=>(i.zero,i.size,i.bytes))=some (some (.agg #[.int .i64 0,.int .i64 0,.int .i64 0,.string ⟨#[]⟩,.string ⟨#[]⟩,.int .i64 0,.int .i64 0,.string ⟨#[]⟩]),8,88):=by kernel_rfl
theorem inf38:(Tryz.prog.info? 132).map (fun i=>(i.zero,i.size,i.bytes))=some (some (.agg #[.string ⟨#[]⟩,.int .i64 0,.string ⟨#[]⟩]),3,40):=by kernel_rfl
end
end Go.Proofs.YthknocapablpaaaGreatDoor
