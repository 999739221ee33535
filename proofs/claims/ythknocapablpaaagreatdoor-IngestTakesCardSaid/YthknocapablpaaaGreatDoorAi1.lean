/- A part of the proof. -/
import Derived.OrdersHeld
import Derived.Deep.RegionHeld
import Derived.WalkKit
import Derived.WalkSpells
import Derived.WalkLawsBesides
import Derived.Deep.RegionLaw
import Derived.Deep.RegionHeld3
import Derived.BigQuiet
import Derived.Deep.AppendLies
import Derived.Deep.CutBlock
import Derived.Deep.DeepCutAuto
import Derived.Deep.Light
import Derived.Deep.LoopGhost
import Derived.Deep.QuietTactic
import Derived.Lib.Hide
namespace Go
/- A region that draws its order and whose last operation waits for all others: an operation may be taken first that yields its value in every world that meets S, though S need not hold behind that last operation (a store to a cell that the region loads). -/
section

section
variable {P:Program}{ops:Array Oper}{Q:Exit→Act→World→Prop}{md:Region.Mode}{S:World→Prop}{f:Nat}

/-- Whatever order is picked from here on, and S holds behind every operation but the last, number f. -/
def wpAnyF (P:Program)(md:Region.Mode)(ops:Array Oper)(Q:Exit→Act→World→Prop)(S:World→Prop)(f:Nat):Nat→Array Bool→Act→World→Prop
 | 0,listed,a,w=>Region.ready md ops listed=[]∧Q .normal a w
 | fuel+1,listed,a,w=>
  (Region.ready md ops listed=[]→Q .normal a w) ∧
  ∀ i∈Region.ready md ops listed,wpOp P ops Q i (fun a' w'=>(i≠f→S w')∧wpAnyF P md ops Q S f fuel (listed.setIfInBounds i true) a' w') a w

/-- Number f waits for number i. -/
def Region.waits (md:Region.Mode)(ops:Array Oper)(f i:Nat):Bool:=match ops[f]? with
 | some o=>o.after.any fun e=>Region.binds md e && e.on == i
 | none=>false

end
end
end Go
/- Laws on worlds and regions that the walks of this seat share: a frame in which some blocks may turn, steps of a region taken by hand. Nothing of the program is run here. -/
namespace Go.Proofs.YthknocapablpaaaGreatDoor
open Go.RowKit


/-- Of what was there only blocks in S may have turned; the streams are as they were. -/
structure Kept (S:Nat→Prop) (w w':World):Prop where
 os:w'.os=w.os
 tape:w'.tape=w.tape
 output:w'.output=w.output
 size:w.heap.size≤w'.heap.size
 block:∀ k,k<w.heap.size→¬ S k→w'.heap[k]? = w.heap[k]?

theorem Kept.refl (S:Nat→Prop)(w:World):Kept S w w:=⟨rfl,rfl,rfl,Nat.le_refl _,fun _ _ _=>rfl⟩

theorem Kept.trans {S S' T:Nat→Prop}{a b c:World}(h:Kept S a b)(k:Kept S' b c)(h1:∀ i,i<a.heap.size→S i→T i)(h2:∀ i,i<a.heap.size→S' i→T i):Kept T a c:=
 ⟨k.os.trans h.os,k.tape.trans h.tape,k.output.trans h.output,Nat.le_trans h.size k.size,fun i hi hT=>
  (k.block i (Nat.lt_of_lt_of_le hi h.size) (fun e=>hT (h2 i hi e))).trans (h.block i hi (fun e=>hT (h1 i hi e)))⟩

theorem Kept.drew {S:Nat→Prop}{a w:World}(h:Kept S a w):Kept S a w.drew:=⟨h.os,h.tape,h.output,h.size,h.block⟩

theorem Kept.alloc {S:Nat→Prop}{a w:World}(h:Kept S a w)(o:Obj):Kept S a (w.alloc o):=
 h.trans (S':=S) ⟨rfl,rfl,rfl,by simp,fun k hk _=>Below.heap_alloc _ _ _ hk⟩ (fun _ _ h=>h) (fun _ _ h=>h)

theorem Kept.setCell {S:Nat→Prop}{a w:World}(h:Kept S a w){p:Addr}(hp:p.block<a.heap.size→S p.block)(u:Value):Kept S a (w.setCell p u):=
 h.trans (S':=fun k=>k=p.block) ⟨rfl,rfl,rfl,by simp [World.setCell],fun k _ hk'=>Below.heap_setCell _ _ _ _ hk'⟩ (fun _ _ h=>h) (fun i hi e=>by subst e;exact hp hi)

theorem Kept.grown {S:Nat→Prop}{a w w':World}{row:Option Nat}(h:Kept S a w)(hg:w.grownBy w' row)(hr:∀ k,row=some k→k<a.heap.size→S k):Kept S a w':=
 h.trans (S':=fun k=>some k=row) ⟨hg.os,hg.tape,hg.output,hg.size,fun k hk hk'=>hg.block k hk hk'⟩ (fun _ _ h=>h) (fun i hi e=>hr i e.symm hi)

theorem Kept.mono {S T:Nat→Prop}{a w:World}(h:Kept S a w)(hS:∀ k,k<a.heap.size→S k→T k):Kept T a w:=
 ⟨h.os,h.tape,h.output,h.size,fun k hk hT=>h.block k hk (fun e=>hT (hS k hk e))⟩

theorem Kept.setAt {S:Nat→Prop}{a w:World}{n j:Nat}{u:Value}(hp:n<a.heap.size→S n)(h:Kept S a w):Kept S a (w.setCell ⟨n,j,none⟩ u):=h.setCell hp u

theorem Kept.cell {S:Nat→Prop}{w w':World}(hK:Kept S w w'){a:Addr}{v:Value}(h:w.cell? a=some v)(hS:¬ S a.block):w'.cell? a=some v:=
 (World.cell?_of_block (w:=w) (hK.block a.block (World.block_lt_of_cell? _ _ h) hS)).trans h

theorem Kept.frozen {S:Nat→Prop}{w w':World}(hK:Kept S w w'){a:Addr}(h:w.frozen? a=false)(hl:a.block<w.heap.size)(hS:¬ S a.block):w'.frozen? a=false:=
 (World.frozen?_of_block (w:=w) (hK.block a.block hl hS)).trans h

/-- Behind a call: a block of three cells that lay last when the call began. -/
theorem Kept.fresh3 {S:Nat→Prop}{w w1:World}{x y z:Value}{t:TypeId}(hK:Kept S (w.alloc (.cells #[x,y,z] t)) w1)(hS:¬ S w.heap.size) :
  w1.cell? ⟨w.heap.size,0,none⟩=some x∧w1.cell? ⟨w.heap.size,1,none⟩=some y∧w1.cell? ⟨w.heap.size,2,none⟩=some z∧(∀ j,w1.frozen? ⟨w.heap.size,j,none⟩=false)∧w.heap.size<w1.heap.size:=by
 refine ⟨hK.cell (by simp) hS,hK.cell (by simp) hS,hK.cell (by simp) hS,fun j=>hK.frozen (by simp) (by simp) hS,?_⟩
 have:=hK.size;simp at this;omega

theorem Kept.cells3 {S:Nat→Prop}{w w':World}{n:Nat}{x y z:Value}(hK:Kept S w w')(hS:¬ S n)(h0:w.cell? ⟨n,0,none⟩=some x)(h1:w.cell? ⟨n,1,none⟩=some y)(h2:w.cell? ⟨n,2,none⟩=some z)(hf:∀ j,w.frozen? ⟨n,j,none⟩=false) :
  w'.cell? ⟨n,0,none⟩=some x∧w'.cell? ⟨n,1,none⟩=some y∧w'.cell? ⟨n,2,none⟩=some z∧(∀ j,w'.frozen? ⟨n,j,none⟩=false):=
 have hl:=World.block_lt_of_cell? _ _ h0
 ⟨hK.cell h0 hS,hK.cell h1 hS,hK.cell h2 hS,fun j=>hK.frozen (hf j) hl hS⟩

theorem _root_.Go.RowKit.Below.step {B:Nat}{a W W':World}{S:Nat→Prop}(h:Below B a W)(hB:B≤a.heap.size)(k:Kept S W W')(hS:∀ i,S i→B≤i):Below B a W':=
 h.trans ⟨k.os,k.tape,k.output,k.size,fun i hi=>k.block i (Nat.lt_of_lt_of_le hi (Nat.le_trans hB h.size)) (fun e=>by have:=hS i e;omega)⟩

theorem _root_.Go.RowKit.Below.alloc' {B:Nat}{a w:World}(h:Below B a w)(hB:B≤a.heap.size)(o:Obj):Below B a (w.alloc o):=h.alloc (Nat.le_trans hB h.size) o

/-- append to an owned row, at one step of a region, from whatever slice. -/
theorem step_app {P:Program}{ops:Array Oper}{o:Oper}{a:Act}{w:World}{K:Act→World→Prop}{Q:Exit→Act→World→Prop}{E:Prop}(hgd:o.guard=none)(s x:Operand)(t:TypeId)
  (ho:o.op = .call { callee:=.builtin .append,args:=#[s,x],argTypes:=#[t,t] })
  (base:Nat)(e:TypeId)(i:TypeInfo)(z:Value)(size bytes:Nat)(ht:P.underlying t=some (.slice e))(hi:P.info? e=some i)(hz:i.zero=some z)
  (hsize:i.size=size)(hby:i.bytes=bytes)(hzs:z.cells.size=size)(hsz:0<size)
  (v:Value)(n:Nat)(xs:List Value)(hs:a.eval s=v)(hown:w.ownsRow base e size v n xs)
  (ad:Addr)(m c:Nat)(news:List Value)(hx:a.eval x = .slice (some ad) m c)(hl:news.length=m * size)(hnews:∀ j u,news[j]? = some u→w.cell? (ad.add j)=some u)(h1:∀ u∈news,u.oneCell'=true)
  (h63:n+m≤maxLen)(hbytes:(n+m) * bytes≤140737488355328)(hbase:base≤w.heap.size)
  (h:∀ ao' cap' w',w'.ownsRow base e size (.slice ao' (n+m) cap') (n+m) (xs++news)→w.grownBy w' v.ownBlock→((Value.slice ao' (n+m) cap').ownBlock=v.ownBlock∨(Value.slice ao' (n+m) cap').ownBlock=some w.heap.size)→K (a.put o.dst (.slice ao' (n+m) cap')) w') :
  if Region.wanted o (yielded ops a.tmps)=true then Oper.wp P o a w K Q else E:=by
 rw [if_pos (by simp [Region.wanted,hgd])]
 obtain ⟨v',w',hr,h2,h3,_,h5⟩:=run_append_own_at (P:=P) w base t o.type e i z size bytes ht hi hz hsize hby hzs hsz v n xs hown ad m c news hl hnews h1 h63 hbytes hbase
 unfold Oper.wp execOp
 simp only [ho,resolve,invoke,builtin,Sem.run_bind,Sem.run_pure,Result.andThen_ok,List.map_toArray,List.map_cons,List.map_nil,hs,hx,hr]
 have hf:∃ ao' cap',v' = .slice ao' (n+m) cap':=by
  rcases h2.2 with ⟨rfl,hn⟩ | ⟨g,cap,cur,rfl,_⟩
  ·exact ⟨none,0,by rw [hn]⟩
  ·exact ⟨_,_,rfl⟩
 obtain ⟨ao',cap',rfl⟩:=hf
 exact h ao' cap' w' h2 h3 h5

/-- What an owned row's value looks like. -/
theorem row_form {w:World}{base:Nat}{e:TypeId}{size:Nat}{v:Value}{n:Nat}{xs:List Value}(h:w.ownsRow base e size v n xs) :
  (v = .slice none 0 0∧n=0)∨∃ g cap,v = .slice (some ⟨g,0,none⟩) n cap∧n≤cap∧base≤g∧g<w.heap.size∧∀ j u,xs[j]? = some u→w.cell? ⟨g,j,none⟩=some u:=by
 rcases h.2 with h2 | ⟨g,cap,cur,rfl,hb,hgg,hle,hrest⟩
 ·exact .inl h2
 ·refine .inr ⟨g, cap, rfl, hle, hb, (Array.getElem?_eq_some_iff.1 hgg).1, fun j u hu => ?_⟩
  have:=h.cells (g:=g) rfl j u hu
  have hadd:(⟨g,0,none⟩:Addr).add j=⟨g,j,none⟩:=by unfold Addr.add;split <;> simp_all
  rwa [hadd] at this

theorem heap_second (w:World)(o1 o2:Obj):((w.alloc o1).alloc o2).heap[w.heap.size+1]? = some o2:=by
 have e:(w.alloc o1).heap.size=w.heap.size+1:=by simp
 have:=heap_alloc_new (w.alloc o1) o2
 rwa [e] at this

theorem grown_kept {w w':World}{row:Option Nat}(h:w.grownBy w' row):Kept (fun k=>row=some k) w w':=
 ⟨h.os,h.tape,h.output,h.size,fun k hk hne=>h.block k hk (fun e=>hne e.symm)⟩

theorem heap_first (w:World)(o1 o2:Obj):((w.alloc o1).alloc o2).heap[w.heap.size]? = some o1:=by
 have e:((w.alloc o1).alloc o2).heap=(w.heap.push o1).push o2:=rfl
 rw [e];simp [Array.getElem?_push]

theorem add_mid (b o j:Nat):(⟨b,o,none⟩:Addr).add j=⟨b,o+j,none⟩:=by unfold Addr.add;split <;> simp_all

end Go.Proofs.YthknocapablpaaaGreatDoor
namespace Go
theorem z0 {a:Act}{v:Value}:a.put none v=a:=rfl
theorem z1 {a:Act}{d:Tmp}{v:Value}:a.put (some d) v={ a with tmps:=a.tmps.setIfInBounds d v }:=rfl
theorem z2 {α:Type}(l:List α)(i:Nat)(a:α):l.toArray.setIfInBounds i a=(l.set i a).toArray:=List.setIfInBounds_toArray l i a
theorem z3 {α:Type}{x:α}{xs:List α}{i:Nat}{a:α}:(x::xs).set (i+1) a=x::xs.set i a:=rfl
theorem z4 {α:Type}{x:α}{xs:List α}{a:α}:(x::xs).set 0 a=a::xs:=rfl
section
variable {P:Program}{ops:Array Oper}{Q:Exit→Act→World→Prop}{md:Region.Mode}{S:World→Prop}{f:Nat}{oi:Oper}{v:Value}{fuel:Nat}{listed:Array Bool}{a:Act}{w:World}
theorem tH (i:Nat)(hi:ops[i]? = some oi)(hy:∀ w,S w→(execOp a.eval oi).run P w = .ok (.value v) w)(hS:S w)
  (h:wpAnyH P md ops Q S fuel (listed.setIfInBounds i true) (a.put oi.dst v) w)(hs:Region.noSelect ops=true:=by kernel_rfl)(hf:Region.free md ops listed i=true:=by kernel_rfl)
  (hr:(Region.ready md ops listed).contains i=true:=by kernel_rfl)(hQ:∀ c a w,Q (.panic c) (a.put oi.dst v) w→Q (.panic c) a w:=by exact fun _ _ _ h=>h)
  (hw:Region.wanted oi (yielded ops a.tmps)=true:=by rfl):wpAnyH P md ops Q S (fuel+1) listed a w:=wpAnyH_take hi hs hf hr hQ (Or.inl ⟨hw,hy⟩) hS h
theorem tW (i:Nat)(hi:ops[i]? = some oi)(hS:S w)
  (h:wpAnyH P md ops Q S fuel (listed.setIfInBounds i true) (a.put oi.dst v) w)(hs:Region.noSelect ops=true:=by kernel_rfl)(hf:Region.free md ops listed i=true:=by kernel_rfl)
  (hr:(Region.ready md ops listed).contains i=true:=by kernel_rfl)(hQ:∀ c a w,Q (.panic c) (a.put oi.dst v) w→Q (.panic c) a w:=by exact fun _ _ _ h=>h)
  (hw:Region.wanted oi (yielded ops a.tmps)=true:=by rfl)(hy:∀ w,S w→(execOp a.eval oi).run P w = .ok (.value v) w:=by (intro w hSw;(try dsimp only at hSw);go_simp;all_goals (with_reducible rfl))):wpAnyH P md ops Q S (fuel+1) listed a w:=wpAnyH_take hi hs hf hr hQ (Or.inl ⟨hw,hy⟩) hS h
theorem tU (i:Nat)(hi:ops[i]? = some oi)(hS:S w)
  (h:wpAnyH P md ops Q S fuel (listed.setIfInBounds i true) (a.put oi.dst undef) w)(hs:Region.noSelect ops=true:=by kernel_rfl)(hf:Region.free md ops listed i=true:=by kernel_rfl)
  (hr:(Region.ready md ops listed).contains i=true:=by kernel_rfl)(hQ:∀ c a w,Q (.panic c) (a.put oi.dst undef) w→Q (.panic c) a w:=by exact fun _ _ _ h=>h)
  (hw:Region.wanted oi (yielded ops a.tmps)=false:=by rfl):wpAnyH P md ops Q S (fuel+1) listed a w:=wpAnyH_take hi hs hf hr hQ (Or.inr ⟨hw,rfl⟩) hS h
theorem tA (i:Nat)(hi:ops[i]? = some oi)(hy:∀ w,(execOp a.eval oi).run P w = .ok (.value v) w)
  (h:wpAny P md ops Q fuel (listed.setIfInBounds i true) (a.put oi.dst v) w)(hs:Region.noSelect ops=true:=by kernel_rfl)(hf:Region.free md ops listed i=true:=by kernel_rfl)
  (hr:(Region.ready md ops listed).contains i=true:=by kernel_rfl)(hQ:∀ c a w,Q (.panic c) (a.put oi.dst v) w→Q (.panic c) a w:=by exact fun _ _ _ h=>h)
  (hw:Region.wanted oi (yielded ops a.tmps)=true:=by rfl):wpAny P md ops Q (fuel+1) listed a w:=wpAny_take hi hs hf hr hQ (Or.inl ⟨hw,hy⟩) h
end
end Go
namespace Go.Proofs.YthknocapablpaaaGreatDoor
/- Which operation stands at a place of a region that is written out. -/
section

theorem opAt0 {a:Oper}{l:List Oper}:(a::l).toArray[0]? = some a:=rfl
theorem opAt1 {a b:Oper}{l:List Oper}:(a::b::l).toArray[1]? = some b:=rfl
theorem opAt2 {a b c:Oper}{l:List Oper}:(a::b::c::l).toArray[2]? = some c:=rfl
theorem opAt3 {a b c d:Oper}{l:List Oper}:(a::b::c::d::l).toArray[3]? = some d:=rfl
theorem opAt4 {a b c d e:Oper}{l:List Oper}:(a::b::c::d::e::l).toArray[4]? = some e:=rfl
theorem opAt5 {a b c d e f:Oper}{l:List Oper}:(a::b::c::d::e::f::l).toArray[5]? = some f:=rfl
theorem opAt6 {a b c d e f g:Oper}{l:List Oper}:(a::b::c::d::e::f::g::l).toArray[6]? = some g:=rfl
theorem opAt7 {a b c d e f g h:Oper}{l:List Oper}:(a::b::c::d::e::f::g::h::l).toArray[7]? = some h:=rfl
theorem opAt8 {a b c d e f g h i:Oper}{l:List Oper}:(a::b::c::d::e::f::g::h::i::l).toArray[8]? = some i:=rfl
theorem opAt9 {a b c d e f g h i j:Oper}{l:List Oper}:(a::b::c::d::e::f::g::h::i::j::l).toArray[9]? = some j:=rfl
theorem opAt10 {a b c d e f g h i j k:Oper}{l:List Oper}:(a::b::c::d::e::f::g::h::i::j::k::l).toArray[10]? = some k:=rfl
theorem opAt11 {a b c d e f g h i j k m:Oper}{l:List Oper}:(a::b::c::d::e::f::g::h::i::j::k::m::l).toArray[11]? = some m:=rfl
theorem opAt12 {a b c d e f g h i j k m n:Oper}{l:List Oper}:(a::b::c::d::e::f::g::h::i::j::k::m::n::l).toArray[12]? = some n:=rfl
theorem opAt13 {a b c d e f g h i j k m n o:Oper}{l:List Oper}:(a::b::c::d::e::f::g::h::i::j::k::m::n::o::l).toArray[13]? = some o:=rfl
theorem opAt14 {a b c d e f g h i j k m n o p:Oper}{l:List Oper}:(a::b::c::d::e::f::g::h::i::j::k::m::n::o::p::l).toArray[14]? = some p:=rfl
theorem opAt15 {a b c d e f g h i j k m n o p q:Oper}{l:List Oper}:(a::b::c::d::e::f::g::h::i::j::k::m::n::o::p::q::l).toArray[15]? = some q:=rfl
theorem opAt16 {a b c d e f g h i j k m n o p q r:Oper}{l:List Oper}:(a::b::c::d::e::f::g::h::i::j::k::m::n::o::p::q::r::l).toArray[16]? = some r:=rfl
theorem opAt17 {a b c d e f g h i j k m n o p q r s:Oper}{l:List Oper}:(a::b::c::d::e::f::g::h::i::j::k::m::n::o::p::q::r::s::l).toArray[17]? = some s:=rfl
theorem opAt18 {a b c d e f g h i j k m n o p q r s t:Oper}{l:List Oper}:(a::b::c::d::e::f::g::h::i::j::k::m::n::o::p::q::r::s::t::l).toArray[18]? = some t:=rfl
theorem opAt19 {a b c d e f g h i j k m n o p q r s t u:Oper}{l:List Oper}:(a::b::c::d::e::f::g::h::i::j::k::m::n::o::p::q::r::s::t::u::l).toArray[19]? = some u:=rfl
theorem opAt20 {a b c d e f g h i j k m n o p q r s t u v:Oper}{l:List Oper}:(a::b::c::d::e::f::g::h::i::j::k::m::n::o::p::q::r::s::t::u::v::l).toArray[20]? = some v:=rfl
theorem opAt21 {a b c d e f g h i j k m n o p q r s t u v w:Oper}{l:List Oper}:(a::b::c::d::e::f::g::h::i::j::k::m::n::o::p::q::r::s::t::u::v::w::l).toArray[21]? = some w:=rfl
theorem opAt22 {a b c d e f g h i j k m n o p q r s t u v w x:Oper}{l:List Oper}:(a::b::c::d::e::f::g::h::i::j::k::m::n::o::p::q::r::s::t::u::v::w::x::l).toArray[22]? = some x:=rfl
theorem opAt23 {a b c d e f g h i j k m n o p q r s t u v w x y:Oper}{l:List Oper}:(a::b::c::d::e::f::g::h::i::j::k::m::n::o::p::q::r::s::t::u::v::w::x::y::l).toArray[23]? = some y:=rfl
theorem opAt24 {a b c d e f g h i j k m n o p q r s t u v w x y z:Oper}{l:List Oper}:(a::b::c::d::e::f::g::h::i::j::k::m::n::o::p::q::r::s::t::u::v::w::x::y::z::l).toArray[24]? = some z:=rfl
theorem opAt25 {a b c d e f g h i j k m n o p q r s t u v w x y z A:Oper}{l:List Oper}:(a::b::c::d::e::f::g::h::i::j::k::m::n::o::p::q::r::s::t::u::v::w::x::y::z::A::l).toArray[25]? = some A:=rfl
theorem opAt26 {a b c d e f g h i j k m n o p q r s t u v w x y z A B:Oper}{l:List Oper}:(a::b::c::d::e::f::g::h::i::j::k::m::n::o::p::q::r::s::t::u::v::w::x::y::z::A::B::l).toArray[26]? = some B:=rfl
theorem opAt27 {a b c d e f g h i j k m n o p q r s t u v w x y z A B C:Oper}{l:List Oper}:(a::b::c::d::e::f::g::h::i::j::k::m::n::o::p::q::r::s::t::u::v::w::x::y::z::A::B::C::l).toArray[27]? = some C:=rfl
theorem opAt28 {a b c d e f g h i j k m n o p q r s t u v w x y z A B C D:Oper}{l:List Oper}:(a::b::c::d::e::f::g::h::i::j::k::m::n::o::p::q::r::s::t::u::v::w::x::y::z::A::B::C::D::l).toArray[28]? = some D:=rfl
theorem opAt29 {a b c d e f g h i j k m n o p q r s t u v w x y z A B C D E:Oper}{l:List Oper}:(a::b::c::d::e::f::g::h::i::j::k::m::n::o::p::q::r::s::t::u::v::w::x::y::z::A::B::C::D::E::l).toArray[29]? = some E:=rfl
theorem opAt30 {a b c d e f g h i j k m n o p q r s t u v w x y z A B C D E F:Oper}{l:List Oper}:(a::b::c::d::e::f::g::h::i::j::k::m::n::o::p::q::r::s::t::u::v::w::x::y::z::A::B::C::D::E::F::l).toArray[30]? = some F:=rfl
theorem opAt31 {a b c d e f g h i j k m n o p q r s t u v w x y z A B C D E F G:Oper}{l:List Oper}:(a::b::c::d::e::f::g::h::i::j::k::m::n::o::p::q::r::s::t::u::v::w::x::y::z::A::B::C::D::E::F::G::l).toArray[31]? = some G:=rfl
theorem opAt32 {a b c d e f g h i j k m n o p q r s t u v w x y z A B C D E F G H:Oper}{l:List Oper}:(a::b::c::d::e::f::g::h::i::j::k::m::n::o::p::q::r::s::t::u::v::w::x::y::z::A::B::C::D::E::F::G::H::l).toArray[32]? = some H:=rfl
end
end Go.Proofs.YthknocapablpaaaGreatDoor
namespace Go.Proofs.YthknocapablpaaaGreatDoor.Mg
/- Plain laws on heaps that lie in lists: up, down, push, pop. Nothing of the program is run here. -/
section
set_option maxRecDepth 100000

section heap
variable {α:Type} [Inhabited α](lt:α→α→Bool)

def nth (l:List α)(i:Nat):α:=l.getD i default
def swapL (l:List α)(i j:Nat):List α:=(l.set i (nth l j)).set j (nth l i)

def upL (l:List α)(j:Nat):List α:=
 if _h:j=0 then l else if lt (nth l j) (nth l ((j - 1) / 2))=true then upL (swapL l ((j - 1) / 2) j) ((j - 1) / 2) else l
termination_by j
decreasing_by omega

def kidL (n:Nat)(l:List α)(i:Nat):Nat:=if (decide (2 * i+2<n) && lt (nth l (2 * i+2)) (nth l (2 * i+1)))=true then 2 * i+2 else 2 * i+1

theorem kidL_gt (n:Nat)(l:List α)(i:Nat):i<kidL lt n l i:=by unfold kidL;split <;> omega
theorem kidL_lt {n:Nat}{l:List α}{i:Nat}(h:2 * i+1<n):kidL lt n l i<n:=by
 unfold kidL;split
 ·rename_i h2;simp at h2;omega
 ·exact h
theorem kidL_par (n:Nat)(l:List α)(i:Nat):(kidL lt n l i - 1) / 2=i:=by unfold kidL;split <;> omega

def downL (n:Nat)(l:List α)(i:Nat):List α:=
 if _h:2 * i+1<n then (if lt (nth l (kidL lt n l i)) (nth l i)=true then downL n (swapL l i (kidL lt n l i)) (kidL lt n l i) else l) else l
termination_by n - i
decreasing_by have:=kidL_gt lt n l i;omega

@[simp] theorem length_swapL (l:List α) (i j:Nat):(swapL l i j).length=l.length:=by simp [swapL]

theorem nth_set (l:List α)(i k:Nat)(x:α)(hi:i<l.length):nth (l.set i x) k=if k=i then x else nth l k:=by
 unfold nth
 simp only [List.getD_eq_getElem?_getD,List.getElem?_set]
 by_cases h:k=i
 ·subst h;simp [hi]
 ·simp [h,Ne.symm h]

theorem nth_swap (l:List α){i j:Nat}(hi:i<l.length)(hj:j<l.length)(k:Nat):nth (swapL l i j) k=if k=j then nth l i else if k=i then nth l j else nth l k:=by
 unfold swapL
 rw [nth_set _ _ _ _ (by simpa using hj),nth_set _ _ _ _ hi]

omit [Inhabited α] in
theorem set_eq_take_drop (l:List α)(i:Nat)(x:α)(hi:i<l.length):l.set i x=l.take i++x::l.drop (i+1):=by
 rw [List.set_eq_take_append_cons_drop];simp [hi]

theorem perm_set (l:List α)(i:Nat)(x:α)(hi:i<l.length):(nth l i::l.set i x).Perm (x::l):=by
 have h1:l=l.take i++nth l i::l.drop (i+1):=by
  have:nth l i=l[i]:=by simp [nth,hi]
  rw [this,List.getElem_cons_drop];simp
 rw [set_eq_take_drop l i x hi]
 conv=>rhs;rw [h1]
 refine (List.Perm.cons _ List.perm_middle).trans ?_
 refine (List.Perm.swap _ _ _).trans (List.Perm.cons _ ?_)
 exact List.perm_middle.symm

theorem perm_swap (l:List α){i j:Nat}(hi:i<l.length)(hj:j<l.length):(swapL l i j).Perm l:=by
 unfold swapL
 have h1:=perm_set l i (nth l j) hi
 have h2:=perm_set (l.set i (nth l j)) j (nth l i) (by simpa using hj)
 have e:nth (l.set i (nth l j)) j=nth l j:=by rw [nth_set _ _ _ _ hi];split <;> rfl
 rw [e] at h2
 exact (List.perm_cons _).1 (h2.trans h1)

theorem upL_perm:∀ (j:Nat)(l:List α),j<l.length→(upL lt l j).Perm l:=by
 intro j
 induction j using Nat.strongRecOn with
 | _ j ih=>
  intro l hj
  rw [upL]
  split
  ·exact .refl _
  ·split
   ·exact (ih _ (by omega) _ (by simp;omega)).trans (perm_swap l (by omega) hj)
   ·exact .refl _

theorem downL_perm (n:Nat):∀ (m i:Nat)(l:List α),n - i=m→n≤l.length→i<l.length→(downL lt n l i).Perm l:=by
 intro m
 induction m using Nat.strongRecOn with
 | _ m ih=>
  intro i l hm hn hi
  rw [downL]
  split
  ·rename_i h
   split
   ·have h1 := kidL_gt lt n l i
    have h2:=kidL_lt lt (l:=l) h
    exact (ih (n - kidL lt n l i) (by omega) _ _ rfl (by simpa using hn) (by simp;omega)).trans (perm_swap l hi (by omega))
   ·exact .refl _
  ·exact .refl _

theorem downL_above (n:Nat):∀ (m i:Nat)(l:List α),n - i=m→n≤l.length→i<n→∀ k,n≤k→nth (downL lt n l i) k=nth l k:=by
 intro m
 induction m using Nat.strongRecOn with
 | _ m ih=>
  intro i l hm hn hi k hk
  rw [downL]
  split
  ·rename_i h
   split
   ·have h1 := kidL_gt lt n l i
    have h2:=kidL_lt lt (l:=l) h
    rw [ih (n - kidL lt n l i) (by omega) _ _ rfl (by simpa using hn) h2 k hk,nth_swap _ (by omega) (by omega),if_neg (by omega),if_neg (by omega)]
   ·rfl
  ·rfl

theorem length_downL (n i:Nat)(l:List α)(hn:n≤l.length)(h:i<l.length):(downL lt n l i).length=l.length:=(downL_perm lt n _ i l rfl hn h).length_eq

structure Ordr:Prop where
 asym:∀ a b,lt a b=true→lt b a=false
 tr:∀ a b c,lt b a=false→lt c b=false→lt c a=false

def Heap (n:Nat)(l:List α):Prop:=∀ k,0<k→k<n→lt (nth l k) (nth l ((k - 1) / 2))=false

theorem up_heap (o:Ordr lt):∀ (j:Nat)(l:List α),j<l.length →
  (∀ k,0<k→k<l.length→k≠j→lt (nth l k) (nth l ((k - 1) / 2))=false) →
  (∀ k,0<k→k<l.length→(k - 1) / 2=j→0<j→lt (nth l k) (nth l ((j - 1) / 2))=false)→Heap lt l.length (upL lt l j):=by
 intro j
 induction j using Nat.strongRecOn with
 | _ j ih=>
  intro l hj h1 h2
  rw [upL]
  split
  ·rename_i h0
   intro k hk hk2;exact h1 k hk hk2 (by omega)
  ·rename_i h0
   obtain ⟨p,hp⟩:∃ p,(j - 1) / 2=p:=⟨_,rfl⟩
   rw [hp]
   have hpj:p<j:=by omega
   split
   ·rename_i hlt
    have:=ih p hpj (swapL l p j) (by simp;omega) ?_ ?_
    ·simpa using this
    ·intro k hk hk2 hkp
     rw [length_swapL] at hk2
     rw [nth_swap _ (by omega) hj,nth_swap _ (by omega) hj]
     by_cases hkj:k=j
     ·subst hkj
      rw [if_pos rfl,hp,if_neg (by omega),if_pos rfl]
      exact o.asym _ _ hlt
     ·rw [if_neg hkj, if_neg hkp]
      by_cases hq:(k - 1) / 2=j
      ·rw [if_pos hq]
       have:=h2 k hk hk2 hq (by omega)
       rwa [hp] at this
      ·rw [if_neg hq]
       have h3:=h1 k hk hk2 hkj
       by_cases hq2:(k - 1) / 2=p
       ·rw [if_pos hq2]; rw [hq2] at h3
        exact o.tr _ _ _ (o.asym _ _ hlt) h3
       ·rw [if_neg hq2];exact h3
    ·intro k hk hk2 hkp h0p
     rw [length_swapL] at hk2
     rw [nth_swap _ (by omega) hj,nth_swap _ (by omega) hj]
     rw [if_neg (show ¬ (p - 1) / 2=j by omega),if_neg (show ¬ (p - 1) / 2=p by omega)]
     have h3:=h1 p h0p (by omega) (by omega)
     by_cases hkj:k=j
     ·rw [if_pos hkj];exact h3
     ·rw [if_neg hkj, if_neg (by omega)]
      have h4:=h1 k hk hk2 hkj
      rw [hkp] at h4
      exact o.tr _ _ _ h3 h4
   ·rename_i hlt
    intro k hk hk2
    by_cases hkj:k=j
    ·subst hkj;rw [hp];simpa using hlt
    ·exact h1 k hk hk2 hkj

theorem down_heap (o:Ordr lt)(n:Nat):∀ (m i:Nat)(l:List α),n - i=m→n≤l.length→i<l.length →
  (∀ k,0<k→k<n→(k - 1) / 2≠i→lt (nth l k) (nth l ((k - 1) / 2))=false) →
  (∀ k,0<k→k<n→(k - 1) / 2=i→0<i→lt (nth l k) (nth l ((i - 1) / 2))=false)→Heap lt n (downL lt n l i):=by
 intro m
 induction m using Nat.strongRecOn with
 | _ m ih=>
  intro i l hm hn hi h1 h2
  rw [downL]
  have hg:=kidL_gt lt n l i
  have hpr:=kidL_par lt n l i
  split
  ·rename_i h
   have hln:=kidL_lt lt (l:=l) h
   have hmin:∀ k,0<k→k<n→(k - 1) / 2=i→lt (nth l k) (nth l (kidL lt n l i))=false:=by
    intro k hk hkn hki
    have hself:∀ a:α,lt a a=false:=fun a=>by
     cases ha:lt a a with
     | false=>rfl
     | true=>exact absurd (o.asym _ _ ha) (by rw [ha];simp)
    have hkk:k=2 * i+1∨k=2 * i+2:=by omega
    unfold kidL
    split
    ·rename_i hc; simp only [Bool.and_eq_true, decide_eq_true_eq] at hc
     rcases hkk with rfl | rfl
     ·exact o.asym _ _ hc.2
     ·exact hself _
    ·rename_i hc
     rcases hkk with rfl | rfl
     ·exact hself _
     ·simp only [Bool.and_eq_true, decide_eq_true_eq, not_and, Bool.not_eq_true] at hc
      exact hc hkn
   obtain ⟨j,hj⟩:∃ j,kidL lt n l i=j:=⟨_,rfl⟩
   rw [hj] at hg hpr hln hmin ⊢
   split
   ·rename_i hlt
    refine ih (n - j) (by omega) j (swapL l i j) rfl (by simpa using hn) (by simp;omega) ?_ ?_
    ·intro k hk hkn hkj
     rw [nth_swap _ hi (by omega),nth_swap _ hi (by omega),if_neg hkj]
     by_cases hk1:k=j
     ·subst hk1
      rw [if_pos rfl,hpr,if_pos rfl]
      exact o.asym _ _ hlt
     ·rw [if_neg hk1]
      by_cases hk2:k=i
      ·subst hk2
       rw [if_pos rfl,if_neg (by omega)]
       exact h2 j (by omega) hln hpr hk
      ·rw [if_neg hk2]
       by_cases hki:(k - 1) / 2=i
       ·rw [if_pos hki];exact hmin k hk hkn hki
       ·rw [if_neg hki];exact h1 k hk hkn hki
    ·intro k hk hkn hkj h0
     rw [nth_swap _ hi (by omega),nth_swap _ hi (by omega),if_neg (by omega),if_neg (by omega),if_neg (by omega),hpr,if_pos rfl]
     have:=h1 k hk hkn (by omega)
     rwa [hkj] at this
   ·rename_i hlt
    intro k hk hkn
    by_cases hki:(k - 1) / 2=i
    ·rw [hki]
     exact o.tr _ _ _ (by simpa using hlt) (hmin k hk hkn hki)
    ·exact h1 k hk hkn hki
  ·rename_i h
   intro k hk hkn
   exact h1 k hk hkn (by omega)

theorem heap_root (o:Ordr lt){n:Nat}{l:List α}(h:Heap lt n l):∀ k,k<n→lt (nth l k) (nth l 0)=false:=by
 intro k
 induction k using Nat.strongRecOn with
 | _ k ih=>
  intro hk
  by_cases h0:k=0
  ·subst h0
   cases ha:lt (nth l 0) (nth l 0) with
   | false=>rfl
   | true=>exact absurd (o.asym _ _ ha) (by rw [ha];simp)
  ·exact o.tr _ _ _ (ih ((k - 1) / 2) (by omega) (by omega)) (h k (by omega) hk)

def pushL (l:List α)(x:α):List α:=upL lt (l++[x]) l.length
/-- What is behind the swap and the way down; the last one is the one that goes. -/
def sunkL (l:List α):List α:=downL lt (l.length - 1) (swapL l 0 (l.length - 1)) 0
def popL (l:List α):List α:=(sunkL lt l).take (l.length - 1)

theorem nth_append (l:List α)(x:α)(k:Nat)(h:k<l.length):nth (l++[x]) k=nth l k:=by simp [nth,List.getElem?_append_left h]

theorem push_perm (l:List α)(x:α):(pushL lt l x).Perm (x::l):=(upL_perm lt _ _ (by simp)).trans (List.perm_append_singleton x l)
theorem length_push (l:List α)(x:α):(pushL lt l x).length=l.length+1:=by rw [(push_perm lt l x).length_eq];rfl
theorem push_heap (o:Ordr lt){l:List α}(x:α)(h:Heap lt l.length l):Heap lt (pushL lt l x).length (pushL lt l x):=by
 rw [length_push]
 have:=up_heap lt o l.length (l++[x]) (by simp) ?_ ?_
 ·rw [List.length_append] at this;exact this
 ·intro k hk hk2 hne
  simp at hk2
  rw [nth_append _ _ _ (by omega),nth_append _ _ _ (by omega)]
  exact h k hk (by omega)
 ·intro k hk hk2 hp
  simp at hk2;omega

theorem length_sunk {l:List α}(h:l≠[]):(sunkL lt l).length=l.length:=by
 have:=List.length_pos_iff.2 h
 unfold sunkL;rw [length_downL _ _ _ _ (by simp) (by simpa using this)];simp
theorem sunk_perm {l:List α}(h:l≠[]):(sunkL lt l).Perm l:=by
 have:=List.length_pos_iff.2 h
 exact (downL_perm lt _ _ 0 _ rfl (by simp) (by simpa using this)).trans (perm_swap l (by omega) (by omega))
theorem sunk_last {l:List α}(h:l≠[]):nth (sunkL lt l) (l.length - 1)=nth l 0:=by
 have:=List.length_pos_iff.2 h
 unfold sunkL
 by_cases h1:l.length=1
 ·rw [downL,dif_neg (by omega),nth_swap _ (by omega) (by omega),if_pos rfl]
 ·rw [downL_above lt _ _ 0 _ rfl (by simp) (by omega) _ (Nat.le_refl _),nth_swap _ (by omega) (by omega),if_pos rfl]
theorem pop_perm {l:List α}(h:l≠[]):(nth l 0::popL lt l).Perm l:=by
 have hl:=List.length_pos_iff.2 h
 refine .trans ?_ (sunk_perm lt h)
 have e:sunkL lt l=popL lt l++[nth l 0]:=by
  unfold popL
  have h2:=length_sunk lt h
  have h3:(sunkL lt l).take (l.length - 1+1)=sunkL lt l:=List.take_of_length_le (by omega)
  rw [List.take_add_one] at h3
  rw [← sunk_last lt h]
  have h4:(sunkL lt l)[l.length - 1]? = some (nth (sunkL lt l) (l.length - 1)):=by
   have h5:l.length - 1<(sunkL lt l).length:=by omega
   rw [List.getElem?_eq_getElem h5];unfold nth;rw [List.getD_eq_getElem?_getD,List.getElem?_eq_getElem h5];rfl
  rw [h4] at h3
  simpa using h3.symm
 rw [e]
 exact (List.perm_append_singleton _ _).symm
theorem length_pop {l:List α}(h:l≠[]):(popL lt l).length=l.length - 1:=by
 unfold popL;rw [List.length_take,length_sunk lt h];omega
theorem pop_heap (o:Ordr lt){l:List α}(hne:l≠[])(h:Heap lt l.length l):Heap lt (popL lt l).length (popL lt l):=by
 have hl:=List.length_pos_iff.2 hne
 rw [length_pop lt hne]
 have h1:Heap lt (l.length - 1) (sunkL lt l):=by
  by_cases h1:l.length=1
  ·intro k hk hk2;omega
  ·refine down_heap lt o _ _ 0 _ rfl (by simp) (by simp; omega) ?_ (by intro k _ _ _ h; omega)
   intro k hk hk2 hne
   rw [nth_swap _ (by omega) (by omega),nth_swap _ (by omega) (by omega),if_neg (by omega),if_neg (by omega),if_neg (by omega),if_neg hne]
   exact h k hk (by omega)
 intro k hk hk2
 have e:∀ i,i<l.length - 1→nth (popL lt l) i=nth (sunkL lt l) i:=by
  intro i hi;unfold popL nth;simp [hi]
 rw [e _ hk2,e _ (by omega)]
 exact h1 k hk hk2
end heap
end
end Go.Proofs.YthknocapablpaaaGreatDoor.Mg
