/- A part of the proof. -/
import Derived.Laws.Append
import Derived.Test.YthknocapablpaaaGreatDoorAi14
namespace Go.Eng
/- An evaluator of closed runs: append and copy. -/
section
variable {σ σ':Sig}{η:Env}{P:Program}

theorem rep_ok {z:List AV}{Z:List Value}(h:concs σ η z=some Z)(h1:allOne Z=true):∀ n,∃ R,concs σ η (rep z n)=some R∧allOne R=true∧R=(List.replicate n Z).flatten∧R.length=n * Z.length
  | 0=>⟨[],rfl,rfl,by simp,by simp⟩
  | n + 1 => by
    obtain ⟨R,r1,r2,r3,r4⟩:=rep_ok h h1 n
    exact ⟨Z++R,concs_append h r1,allOne_append.2 ⟨h1,r2⟩,by rw [r3,List.replicate_succ,List.flatten_cons],by rw [List.length_append,r4];rw [Nat.add_mul];omega⟩

theorem flatten_get {Z:List Value}(hz:0<Z.length):∀ (n i:Nat),i<n * Z.length→(List.replicate n Z).flatten[i]? = Z[i % Z.length]?
  | 0,i,h=>by omega
  | n + 1, i, h => by
    rw [List.replicate_succ,List.flatten_cons,List.getElem?_append]
    split
    · rename_i q;rw [Nat.mod_eq_of_lt q]
    · rename_i q
      rw [flatten_get hz n (i - Z.length) (by rw [Nat.add_mul] at h;omega)]
      congr 1
      exact (Nat.mod_eq_sub_mod (by omega)).symm

theorem zeroCells_eq (Z:Array Value)(n:Nat):(Builtin.zeroCells Z n).toList=(List.replicate n Z.toList).flatten:=by
  rcases Nat.eq_zero_or_pos Z.size with h0 | hp
  · have : Z = #[] := by simpa using h0
    subst this
    simp [Builtin.zeroCells]
  · apply List.ext_getElem?
    intro i
    by_cases hi:i<n * Z.size
    · rw [flatten_get (by simpa using hp) n i (by simpa using hi)]
      have hm:i % Z.size<Z.size:=Nat.mod_lt _ hp
      simp [Builtin.zeroCells,hi,hm]
    · rw [List.getElem?_eq_none (by simp [Builtin.zeroCells];omega),List.getElem?_eq_none (by simp;omega)]

theorem srcCells_ok {h:Heap}{c size e:Nat}{zeros:Bool}{x:AV}{n:Nat}{new:List AV}{xv:Value}{w:World}(hs:srcCells P h size zeros e x=some (n,new))(H:HR P σ η h c w)(hx:conc σ η x=some xv) :
    ∃ N:Array Value,concs σ η new=some N.toList∧allOne N.toList=true ∧
      (zeros=true→n≤appendMax∧(∃ k,xv = .int k (Int.ofNat n))∧∃ z Z,zero? P e=some z∧(zeroValue e).run P w = .ok Z w∧Builtin.zeroCells Z.cells n=N∧N.size=n * Z.cells.size∧conc σ η z=some Z∧z.laid=true) ∧
      (zeros=false→N.size=n * size∧(∀ w',w'.heap=w.heap→(Builtin.lenOf xv).run P w' = .ok n w'∧(Builtin.firstCells size n xv).run P w' = .ok N w')):=by
  unfold srcCells at hs
  cases zeros with
  | true =>
    simp only [cond_true] at hs
    cases ei:idx? x with
    | none=>simp [ei] at hs
    | some m =>
      simp only [ei] at hs
      cases eb:Nat.ble m appendMax with
      | false=>simp [eb] at hs
      | true =>
        simp only [eb,cond_true,Option.map_eq_some_iff] at hs
        obtain ⟨z,hz,he⟩:=hs
        cases he
        obtain ⟨Z,z1,z2,z3⟩:=run_zero? hz
        obtain ⟨c1,c2⟩:=cells_ok (z1 σ η) z2
        obtain ⟨R,r1,r2,r3,r4⟩:=rep_ok c1 c2 n
        have hN:(Builtin.zeroCells Z.cells n).toList=R:=by rw [zeroCells_eq,r3]
        refine ⟨Builtin.zeroCells Z.cells n,by rw [hN];exact r1,by rw [hN];exact r2,fun _=>⟨Nat.le_of_ble_eq_true eb,idx?_ok ei hx,z,Z,hz,z3 w,rfl,?_,z1 σ η,z2⟩,fun q=>by cases q⟩
        have:(Builtin.zeroCells Z.cells n).toList.length=n * Z.cells.toList.length:=by rw [hN,r4]
        simpa using this
  | false =>
    simp only [cond_false] at hs
    split at hs
    · cases hs
      rw [conc_nils] at hx;subst hx
      exact ⟨#[],rfl,rfl,fun q=>(by cases q),fun _=>⟨by simp,fun w' _=>⟨rfl,by simp [Builtin.firstCells]⟩⟩⟩
    · rename_i b o len cap fl
      obtain ⟨l,hl,rfl⟩:=conc_slice.1 hx
      simp only [Option.bind_eq_some_iff,Option.map_eq_some_iff] at hs
      obtain ⟨⟨t,cs⟩,hc,r,hr,he⟩:=hs
      cases he
      obtain ⟨vs,h1,h2,h3,_,_⟩:=H.row hc hl hr
      refine ⟨vs.toArray,by simpa using h1,by simpa using h2,fun q=>(by cases q),fun _=>⟨by simpa using h3,fun w' hw=>⟨rfl,?_⟩⟩⟩
      obtain ⟨vs',k1,_,_,_,k5⟩:=(H.heap hw).row hc hl hr
      rw [h1] at k1;cases k1
      simpa [Builtin.firstCells] using k5
    · rename_i s
      cases e1:Nat.beq size 1 with
      | false=>simp [e1] at hs
      | true =>
        simp only [e1,cond_true,Option.some.injEq,Prod.mk.injEq] at hs
        obtain ⟨rfl,rfl⟩:=hs
        have:=Nat.eq_of_beq_eq_true e1
        subst this
        obtain ⟨k1,rfl⟩:=conc_str.1 hx
        have hb:∀ (l:List Nat),allB l=true→concs σ η (l.map fun b=>AV.int .u8 (.ofNat b))=some (l.map fun b=>Value.int .u8 (Int.ofNat b))∧allOne (l.map fun b=>Value.int .u8 (Int.ofNat b))=true:=by
          intro l
          induction l with
          | nil=>intro _;exact ⟨rfl,rfl⟩
          | cons y l ih=>intro hl;obtain ⟨_,h2⟩:=allB_cons.1 hl;obtain ⟨i1,i2⟩:=ih h2;exact ⟨concs_cons.2 ⟨_,_,conc_int.2 rfl,i1,rfl⟩,by simp only [List.map_cons,allOne,i2,Bool.and_true];rfl⟩
        obtain ⟨b1,b2⟩:=hb s k1
        refine ⟨(s.map fun b=>Value.int .u8 (Int.ofNat b)).toArray,by simpa using b1,by simpa using b2,fun q=>(by cases q),fun _=>⟨by simp,fun w' _=>⟨?_,?_⟩⟩⟩
        · simp [Builtin.lenOf,bs_size]
        · have hex : (bs s).extract 0 s.length = bs s := by rw [bs_extract]; simp
          simp only [Builtin.firstCells,hex,Sem.run_pure]
          congr 1
          apply Array.toList_inj.1
          simp only [bs,Array.toList_map,List.map_map]
          apply List.map_congr_left
          intro b hbm
          have:b<256:=by simp only [allB,List.all_eq_true,decide_eq_true_eq] at k1;exact k1 b hbm
          simp [Function.comp,u8_toNat this]
    · cases hs

theorem elemOk_ok {e size:Nat}(h:elemOk P e=some size):size? P e=some size∧0<size∧∃ i z Z,P.info? e=some i∧i.bytes≤appendMax∧zero? P e=some z∧i.zero=some Z∧Z.cells.size=size∧(∀ w,(zeroValue e).run P w = .ok Z w):=by
  unfold elemOk at h
  split at h
  · rename_i s b z e1 e2 e3
    cases eb:(Nat.ble b appendMax && Nat.beq z.cells.length (s+1)) with
    | false=>simp [eb] at h
    | true =>
      simp only [eb,cond_true,Option.some.injEq] at h
      subst h
      rw [Bool.and_eq_true] at eb
      refine ⟨e1,by omega,?_⟩
      simp only [bytes?,Option.map_eq_some_iff] at e2
      obtain ⟨i,hi,rfl⟩:=e2
      simp only [zero?,Option.bind_eq_some_iff] at e3
      obtain ⟨i',hi',Z,hZ,x,hx,hb⟩:=e3
      rw [hi] at hi';cases hi'
      cases el:x.laid with
      | false=>simp [el] at hb
      | true =>
        simp only [el,cond_true,Option.some.injEq] at hb
        subst hb
        have hc:=ofV_ok (fun _=>none) (⟨fun _=>default,fun _=>none⟩) hx
        obtain ⟨c1,_⟩:=cells_ok hc el
        refine ⟨i,x,Z,hi,Nat.le_of_ble_eq_true eb.1,?_,hZ,?_,fun w=>by simp [zeroValue,typeInfo,hi,hZ]⟩
        · simp only [zero?,hi,Option.bind_some,hZ,hx,el,cond_true]
        · have := concs_length c1
          rw [Nat.eq_of_beq_eq_true eb.2] at this
          simpa using this
  · cases h

def isIntD:TypeDesc→Bool | .int _=>true | _=>false

/-- What is appended, by what it is: so many zeros, or a row, or a text. -/
def ZerosR (P:Program)(as:Array TypeId)(zeros:Bool):Prop:=(as[1]? = none∧zeros=false)∨∃ t d,as[1]? = some t∧P.underlying t=some d∧isIntD d=zeros

theorem wrap_small {n:Nat}(h:n≤appendMax):IntKind.i64.wrap (Int.ofNat n)=(n:Int):=by
  rw [← wrapF_eq]
  have:Nat.ble n (ikMax .i64)=true:=by rw [Nat.ble_eq];unfold appendMax at h;simp only [ikMax];omega
  simp only [wrapF,this,cond_true]
  rfl

/-- append, run, where there is room. -/
theorem run_append_room {st e size n len cap:Nat}{as:Array TypeId}{vs:Array Value}{ty:TypeId}{xv:Value}{base:Option Addr}{zeros:Bool}{N:Array Value}{i:TypeInfo}{Z:Value}{w w':World}
    (h0:as[0]? = some st)(v0:vs[0]? = some (.slice base len cap))(v1:vs[1]? = some xv)(hu:P.underlying st=some (.slice e))(hs:size? P e=some size)(hi:P.info? e=some i)(hib:i.bytes≤appendMax)
    (hz:ZerosR P as zeros)(hn:n≤appendMax)(hzv:(zeroValue e).run P w = .ok Z w)
    (hzt:zeros=true→(∃ k,xv = .int k (Int.ofNat n))∧Builtin.zeroCells Z.cells n=N)
    (hzf:zeros=false→(Builtin.lenOf xv).run P w = .ok n w∧(Builtin.firstCells size n xv).run P w = .ok N w)
    (hN:N.size=n * size)
    (hroom:len+n≤cap)(hst:(match base with | some a=>storeCells (a.add (len * size)) N.toList | none=>pure ()).run P w = .ok () w') :
    (Builtin.append_ as ty vs).run P w = .ok (.slice base (len+n) cap) w':=by
  have hinfo:(typeInfo e).run P w = .ok i w:=by simp [typeInfo,hi]
  have hz0:n * size=0→N=#[]:=fun q=>by rw [q] at hN;simpa using hN
  cases zeros with
  | true =>
    obtain ⟨⟨k,rfl⟩,rfl⟩:=hzt rfl
    rcases hz with ⟨_,q⟩ | ⟨t,d,h1,hd,hm⟩
    · cases q
    · cases d <;> simp [isIntD] at hm
      have hb:¬ ((n:Int) * (i.bytes:Int) > 2 ^ 48):=by
        unfold appendMax at hn hib
        have:n * i.bytes≤1000000 * 1000000:=Nat.mul_le_mul hn hib
        have h2:((n * i.bytes:Nat):Int)≤((1000000 * 1000000:Nat):Int):=Int.ofNat_le.2 this
        rw [Int.natCast_mul] at h2
        omega
      have hneg:¬ ((n:Int)<0):=by omega
      simp only [Builtin.append_,h0,v0,v1,h1,Sem.run_bind,run_underlying hu,run_underlying hd,Result.andThen_ok,run_sizeOf? hs,Sem.run_pure,if_true,asInt,asIntOf,wrap_small hn,if_neg hneg,hinfo,if_neg hb,Int.toNat_natCast,if_pos hroom,Bool.not_true,Bool.false_eq_true,if_false]
      by_cases hq:n * size=0
      · rw [if_pos hq]
        rw [hz0 hq] at hst
        simp only [Sem.run_pure,Result.andThen_ok]
        cases base with
        | none=>simp only [Sem.run_pure] at hst ⊢;cases hst;rfl
        | some a=>simp only [Sem.run_bind,hst,Result.andThen_ok,Sem.run_pure]
      · rw [if_neg hq]
        simp only [Sem.run_bind,hzv,Result.andThen_ok,Sem.run_pure]
        cases base with
        | none=>simp only [Sem.run_pure] at hst ⊢;cases hst;rfl
        | some a=>simp only [Sem.run_bind,hst,Result.andThen_ok,Sem.run_pure]
  | false =>
    obtain ⟨f1,f2⟩:=hzf rfl
    rcases hz with ⟨h1,_⟩ | ⟨t,d,h1,hd,hm⟩
    · simp only [Builtin.append_, h0, v0, v1, h1, Sem.run_bind, run_underlying hu, Result.andThen_ok, run_sizeOf? hs, Sem.run_pure, Bool.false_eq_true, if_false, f1, if_pos hroom, Bool.not_false, if_true, f2]
      cases base with
      | none=>simp only [Sem.run_pure] at hst ⊢;cases hst;rfl
      | some a=>simp only [Sem.run_bind,hst,Result.andThen_ok,Sem.run_pure]
    · simp only [Builtin.append_, h0, v0, v1, h1, Sem.run_bind, run_underlying hu, run_underlying hd, Result.andThen_ok, run_sizeOf? hs, Sem.run_pure]
      cases d <;> first
        | (simp [isIntD] at hm;done)
        | (simp only [Bool.false_eq_true, if_false, Sem.run_bind, f1, Result.andThen_ok, if_pos hroom, Bool.not_false, if_true, f2]
           cases base with
           | none=>simp only [Sem.run_pure] at hst ⊢;cases hst;rfl
           | some a=>simp only [Sem.run_bind,hst,Result.andThen_ok,Sem.run_pure])

/-- append, run, where there is no room. -/
theorem run_append_grow' {st e size n len cap:Nat}{as:Array TypeId}{vs:Array Value}{ty:TypeId}{xv:Value}{base:Option Addr}{zeros:Bool}{N OLD:Array Value}{i:TypeInfo}{Z:Value}{w:World}
    (h0:as[0]? = some st)(v0:vs[0]? = some (.slice base len cap))(v1:vs[1]? = some xv)(hu:P.underlying st=some (.slice e))(hs:size? P e=some size)(hi:P.info? e=some i)(hib:i.bytes≤appendMax)
    (hz:ZerosR P as zeros)(hn:n≤appendMax)(hlen:len≤appendMax)(hzv:∀ w',(zeroValue e).run P w' = .ok Z w')
    (hzt:zeros=true→(∃ k,xv = .int k (Int.ofNat n))∧Builtin.zeroCells Z.cells n=N)
    (hzf:zeros=false→(Builtin.lenOf xv).run P w = .ok n w∧∀ w',w'.heap=w.heap→(Builtin.firstCells size n xv).run P w' = .ok N w')
    (hN:N.size=n * size)(hold:∀ w',w'.heap=w.heap→(Builtin.firstCells size len (.slice base len cap)).run P w' = .ok OLD w')
    (hroom:cap<len+n):∃ k,(Builtin.append_ as ty vs).run P w = .ok (.slice (some ⟨w.heap.size,0,none⟩) (len+n) (len+n+k)) (w.drew.alloc (.cells (OLD++N++Builtin.zeroCells Z.cells k) e)):=by
  have hinfo:∀ w',(typeInfo e).run P w' = .ok i w':=fun w'=>by simp [typeInfo,hi]
  have hz0:n * size=0→N=#[]:=fun q=>by rw [q] at hN;simpa using hN
  have hno:¬ (len+n≤cap):=by omega
  have hmul:Builtin.nextslicecap (len+n) cap * i.bytes≤2 ^ 48:=by
    have h1:=nextslicecap_le hroom
    have h2:Builtin.nextslicecap (len+n) cap * i.bytes≤(2 * (len+n)) * i.bytes:=Nat.mul_le_mul_right _ h1
    have h3:(2 * (len+n)) * i.bytes≤4000000 * 1000000:=Nat.mul_le_mul (by unfold appendMax at hn hlen;omega) (by unfold appendMax at hib;exact hib)
    omega
  have h48:¬ (Builtin.nextslicecap (len+n) cap * i.bytes > 2 ^ 48):=by omega
  have h63:¬ (((len+n:Nat):Int) > IntKind.i64.max):=by
    unfold appendMax at hn hlen
    simp only [IntKind.max,IntKind.signed,IntKind.bits,if_true]
    omega
  obtain ⟨k,hk⟩:∃ k,(Question.appendCap (len+n) cap e).cut (w.tape w.drawn (.appendCap (len+n) cap e))=len+n+k:=⟨_,rfl⟩
  have hch:(choose (.appendCap (len+n) cap e)).run P w = .ok (len+n+k) w.drew:=by
    rw [run_choose]
    simp only [Question.forced,Bool.false_eq_true,if_false,hk]
    rfl
  have hks:len+n+k - (len+n)=k:=by omega
  refine ⟨k,?_⟩
  cases zeros with
  | true =>
    obtain ⟨⟨kk,rfl⟩,rfl⟩:=hzt rfl
    rcases hz with ⟨_,q⟩ | ⟨t,d,h1,hd,hm⟩
    · cases q
    · cases d <;> simp [isIntD] at hm
      have hb:¬ ((n:Int) * (i.bytes:Int) > 2 ^ 48):=by
        unfold appendMax at hn hib
        have:n * i.bytes≤1000000 * 1000000:=Nat.mul_le_mul hn hib
        have h2:((n * i.bytes:Nat):Int)≤((1000000 * 1000000:Nat):Int):=Int.ofNat_le.2 this
        rw [Int.natCast_mul] at h2
        omega
      have hneg:¬ ((n:Int)<0):=by omega
      have h63':¬ (((len+n:Nat):Int) > IntKind.i64.max∧(True∨i.bytes=0)):=fun q=>h63 q.1
      simp only [Builtin.append_,h0,v0,v1,h1,Sem.run_bind,run_underlying hu,run_underlying hd,Result.andThen_ok,run_sizeOf? hs,Sem.run_pure,if_true,asInt,asIntOf,wrap_small hn,if_neg hneg,hinfo,if_neg hb,Int.toNat_natCast,if_neg hno,Bool.not_true,Bool.false_eq_true,if_false]
      rw [if_neg h63']
      simp only [Sem.run_bind,hinfo,Result.andThen_ok,if_neg h48,hch,run_askRoom,hold w.drew rfl,hzv,newRow,run_newObj,Sem.run_pure,hks]
      by_cases hq:n * size=0
      · rw [if_pos hq]
        simp only [Sem.run_pure,Result.andThen_ok]
        rw [hz0 hq]
        rfl
      · rw [if_neg hq]
        simp only [Sem.run_pure,Result.andThen_ok,Sem.run_bind,hzv]
        rfl
  | false =>
    obtain ⟨f1,f2⟩:=hzf rfl
    rcases hz with ⟨h1,_⟩ | ⟨t,d,h1,hd,hm⟩
    · have h63' : ¬ (((len + n : Nat) : Int) > IntKind.i64.max ∧ (False ∨ i.bytes = 0)) := fun q => h63 q.1
      simp only [Builtin.append_,h0,v0,v1,h1,Sem.run_bind,run_underlying hu,Result.andThen_ok,run_sizeOf? hs,Sem.run_pure,Bool.false_eq_true,if_false,f1,if_neg hno,Bool.not_false,if_true,hinfo]
      rw [if_neg h63']
      simp only [Sem.run_bind,hinfo,Result.andThen_ok,if_neg h48,hch,run_askRoom,hold w.drew rfl,f2 w.drew rfl,hzv,newRow,run_newObj,Sem.run_pure,hks]
      rfl
    · have h63' : ¬ (((len + n : Nat) : Int) > IntKind.i64.max ∧ (False ∨ i.bytes = 0)) := fun q => h63 q.1
      simp only [Builtin.append_,h0,v0,v1,h1,Sem.run_bind,run_underlying hu,run_underlying hd,Result.andThen_ok,run_sizeOf? hs,Sem.run_pure]
      cases d <;> first
        | (simp [isIntD] at hm;done)
        | (simp only [Bool.false_eq_true, if_false, Sem.run_bind, f1, Result.andThen_ok, if_neg hno, Bool.not_false, if_true, hinfo]
           rw [if_neg h63']
           simp only [Sem.run_bind,hinfo,Result.andThen_ok,if_neg h48,hch,run_askRoom,hold w.drew rfl,f2 w.drew rfl,hzv,newRow,run_newObj,Sem.run_pure,hks]
           rfl)
end
/- An evaluator of closed runs: its append and its copy are the model's. -/
section
variable {σ σ':Sig}{η:Env}{P:Program}

/-- What an operation comes to, and how the heap turns with it. -/
def ValR (P:Program)(η:Env)(σ:Sig)(h:Heap)(c:Nat)(w:World)(s:Sem Value):Out→Prop
  | .val v h' c'=>∃ u σ' w',conc σ' η v=some u∧Went P η σ h c w σ' h' c' w'∧s.run P w = .ok u w'
  | .enter .. => False

/-- A name's block gets another name, and another object. -/
theorem move_ok {h:Heap}{c b:Nat}{w w':World}{o:AObj}{O:Obj}{l l':Loc}(H:HR P σ η h c w)(hb:b≤bigN)(hc:c≤bigN)(hl:σ b=some l)(hlive:(h.get b).isSome=true)(e:l'.blk=l.blk)(eo:l'.off=l.off)(hw:w'={ w with heap:=w.heap.setIfInBounds l.blk O })
    (ho:ObjR P (upd σ c l') η w' l' o):Went P η σ h c w (upd σ c l') ((h.set deep b none).set deep c (some o)) (c+1) w':=by
  have hx:=ext_upd (l:=l') (H.new c (Nat.le_refl _))
  have hcb:c≠b:=fun q=>by subst q;rw [H.new c (Nat.le_refl _)] at hl;cases hl
  have live:∀ m,(((h.set deep b none).set deep c (some o)).get m).isSome=true→m=c∨(m≠c∧m≠b∧(h.get m).isSome=true):=by
    intro m hm
    rw [get_put hc] at hm
    split at hm
    · rename_i q;exact .inl q
    · rename_i q
      rw [get_put hb] at hm
      split at hm
      · cases hm
      · rename_i q2;exact .inr ⟨q,q2,hm⟩
  subst hw
  refine ⟨hx,⟨fun m q hm=>?_,fun m n x y hm hn hxm hyn e'=>?_,fun n hn=>?_,fun g hg=>?_⟩,⟨rfl,rfl,rfl,by simp,fun k hk hS=>?_⟩,fun k hk ⟨m,x,hm,hmx,ek⟩=>?_,fun m x hm hmx=>?_⟩
  · have hm' := live m (by rw [hm]; rfl)
    rcases hm' with rfl | ⟨q1,q2,q3⟩
    · rw [get_put hc,if_pos rfl] at hm;cases hm;exact ⟨l',upd_same _ _ _,ho⟩
    · rw [get_put hc, if_neg q1, get_put hb, if_neg q2] at hm
      obtain ⟨x,hx1,ob⟩:=H.obj m q hm
      refine ⟨x,hx m x hx1,(ob.ext hx).block ?_⟩
      have:l.blk≠x.blk:=fun q'=>q2 (H.inj m b x l q3 hlive hx1 hl q'.symm)
      simp [Array.getElem?_setIfInBounds_ne this]
  · rcases live m hm with rfl | ⟨q1, q2, q3⟩ <;> rcases live n hn with rfl | ⟨r1, r2, r3⟩
    · rfl
    · rw [upd_same] at hxm; rw [upd_other r1] at hyn
      cases hxm
      exact absurd (H.inj n b y l r3 hlive hyn hl (e'.symm.trans e)) r2
    · rw [upd_same] at hyn; rw [upd_other q1] at hxm
      cases hyn
      exact absurd (H.inj m b x l q3 hlive hxm hl (e'.trans e)) q2
    · rw [upd_other q1] at hxm; rw [upd_other r1] at hyn
      exact H.inj m n x y q3 r3 hxm hyn e'
  · rw [upd_other (by omega)];exact H.new n (by omega)
  · obtain ⟨s,hs⟩:=H.glob g hg;exact ⟨s,hx _ _ hs⟩
  · have : l.blk ≠ k := fun q => hS ⟨b, l, hlive, hl, q⟩
    simp [Array.getElem?_setIfInBounds_ne this]
  · rcases live m hm with rfl | ⟨q1, q2, q3⟩
    · rw [upd_same] at hmx;cases hmx;exact ⟨b,l,hlive,hl,e.symm.trans ek⟩
    · rw [upd_other q1] at hmx;exact ⟨m,x,q3,hmx,ek⟩
  · rcases live m hm with rfl | ⟨q1, q2, q3⟩
    · rw [upd_same] at hmx;cases hmx;exact .inr ⟨b,l,hlive,hl,eo.symm⟩
    · rw [upd_other q1] at hmx;exact .inr ⟨m,x,q3,hmx,rfl⟩

theorem aAppend_ok {h:Heap}{c st:Nat}{xt:Option TypeId}{s x:AV}{out:Out}{as:Array TypeId}{vs:Array Value}{ty:TypeId}{sv xv:Value}{w:World}(ha:aAppend P h c st xt s x=some out)(H:HR P σ η h c w)
    (hs:conc σ η s=some sv)(hx:conc σ η x=some xv)(a0:as[0]? = some st)(a1:as[1]? = xt)(v0:vs[0]? = some sv)(v1:vs[1]? = some xv):ValR P η σ h c w (Builtin.append_ as ty vs) out:=by
  unfold aAppend at ha
  split at ha
  · rename_i e hu
    cases ee:elemOk P e with
    | none=>simp [ee] at ha
    | some size =>
      simp only [ee] at ha
      obtain ⟨hsz,hpos,i,z,Z,hi,hib,hz,hiz,hZs,hzv⟩:=elemOk_ok ee
      have hcell:=cellsOf_of hsz
      rw [Option.bind_eq_some_iff] at ha
      obtain ⟨zeros,hzr,ha⟩:=ha
      rw [Option.bind_eq_some_iff] at ha
      obtain ⟨⟨n,new⟩,hsrc,ha⟩:=ha
      simp only at ha
      have hZR:ZerosR P as zeros:=by
        cases xt with
        | none=>simp only [Option.some.injEq] at hzr;exact .inl ⟨a1,hzr.symm⟩
        | some t =>
          refine .inr ⟨t,?_⟩
          simp only at hzr
          split at hzr
          · rename_i q hq;cases hzr;exact ⟨_,a1,hq,rfl⟩
          · rename_i d hd hq; cases hzr
            refine ⟨_,a1,hq,?_⟩
            cases d <;> first | rfl | exact absurd rfl (hd _)
          · cases hzr
      cases hn:Nat.ble n appendMax with
      | false=>simp [hn] at ha
      | true =>
        simp only [hn,cond_true] at ha
        have hn':=Nat.le_of_ble_eq_true hn
        obtain ⟨N,n1,n2,n3,n4⟩:=srcCells_ok hsrc H hx
        have hNs:N.size=n * size:=by
          cases zeros with
          | true =>
            obtain ⟨_,_,z',Z',hz',hZ',_,q,_⟩:=n3 rfl
            rw [hzv w] at hZ';cases hZ'
            rw [q,hZs]
          | false=>exact (n4 rfl).1
        have hzt:zeros=true→(∃ k,xv = .int k (Int.ofNat n))∧Builtin.zeroCells Z.cells n=N:=by
          intro q
          obtain ⟨_,k,z',Z',hz',hZ',q1,_⟩:=n3 q
          rw [hzv w] at hZ';cases hZ'
          exact ⟨k,q1⟩
        have hzf:zeros=false→(Builtin.lenOf xv).run P w = .ok n w∧∀ w',w'.heap=w.heap→(Builtin.firstCells size n xv).run P w' = .ok N w':=fun q=>
          ⟨((n4 q).2 w rfl).1,fun w' hw'=>((n4 q).2 w' hw').2⟩
        have hnl:new.length=N.toList.length:=(concs_length n1).symm
        -- a new row
        have grow:∀ {old:List AV} {OLD:Array Value} {len cap:Nat} {base:Option Addr} {out':Out} {hh:Heap},sv = .slice base len cap→cap<len+n→len≤appendMax→concs σ η old=some OLD.toList→allOne OLD.toList=true→OLD.size=len * size →
            (∀ w',w'.heap=w.heap→(Builtin.firstCells size len (.slice base len cap)).run P w' = .ok OLD w')→Went P η σ h c w σ hh c w →
            newCells hh c e (old++new) (.slice c 0 (len+n) (len+n) true)=some out'→ValR P η σ h c w (Builtin.append_ as ty vs) out':=by
          intro old OLD len cap base out' hh hsv hno hlen o1 o2 o3 o4 wt hnew
          subst hsv
          obtain ⟨k,hk⟩:=run_append_grow' (ty:=ty) a0 v0 v1 hu hsz hi hib hZR hn' hlen hzv hzt hzf hNs o4 hno
          cases out' with
          | enter f args=>unfold newCells fCells at hnew;rw [fAVs_eq] at hnew;obtain ⟨_,q⟩:=putObj_ok hnew;rw [fNat_eq] at q;cases q
          | val v' h' c' =>
            have hCs:(OLD++N++Builtin.zeroCells Z.cells k).size=(len+n) * size+k * size:=by
              have:(Builtin.zeroCells Z.cells k).size=k * size:=by
                have:=congrArg List.length (zeroCells_eq Z.cells k)
                simp at this
                rw [hZs] at this
                exact this
              rw [Array.size_append,Array.size_append,o3,hNs,this,Nat.add_mul]
            obtain ⟨q1,q2⟩:=newCells_ok (sl:=k) (C:=OLD++N++Builtin.zeroCells Z.cells k) (fr:=(0,0)) (w':=w.drew.alloc (.cells (OLD++N++Builtin.zeroCells Z.cells k) e)) hnew wt.rel (concs_append o1 n1) (allOne_append.2 ⟨o2,n2⟩)
              (by
                intro j y hj
                have:(OLD++N++Builtin.zeroCells Z.cells k).toList=(OLD.toList++N.toList)++(Builtin.zeroCells Z.cells k).toList:=by simp
                rw [← Array.getElem?_toList,this,List.getElem?_append_left]
                · exact hj
                · rcases Nat.lt_or_ge j (OLD.toList ++ N.toList).length with q | q
                  · exact q
                  · rw [List.getElem?_eq_none q] at hj;cases hj)
              (by rw [hcell,hCs,List.length_append];simp only [Array.length_toList];rw [o3,hNs,Nat.add_mul];omega)
              (by intro j _ q;omega) rfl rfl rfl rfl
            subst q1
            refine ⟨_,_,_,conc_slice.2 ⟨_,upd_same _ _ _,rfl⟩,wt.trans q2,?_⟩
            rw [hk]
            rfl
        split at ha
        · -- nil
          rw [conc_nils] at hs
          cases hq:Nat.beq n 0 with
          | true =>
            simp only [hq,cond_true,Option.some.injEq] at ha
            subst ha
            have h0:=Nat.eq_of_beq_eq_true hq
            subst h0
            subst hs
            refine ⟨_,σ,w,conc_nils.2 rfl,Went.refl H,?_⟩
            rw [run_append_room (size:=size) (n:=0) (N:=N) (Z:=Z) (w':=w) a0 v0 v1 hu hsz hi hib hZR hn' (hzv w) hzt (fun q=>⟨(hzf q).1,(hzf q).2 w rfl⟩) hNs (by omega) rfl]
          | false =>
            simp only [hq,cond_false] at ha
            have h0:n≠0:=fun q=>by subst q;cases hq
            refine grow (old:=[]) (OLD:=#[]) (len:=0) hs (by omega) (by unfold appendMax;omega) rfl rfl (by simp) (fun w' _=>by simp [Builtin.firstCells]) (Went.refl H) (by simpa using ha)
        · rename_i b o len cap flex
          obtain ⟨l,hl,hsv⟩:=conc_slice.1 hs
          cases hlc:(Nat.ble len appendMax && Nat.ble len cap) with
          | false=>simp [hlc] at ha
          | true =>
            simp only [hlc,cond_true] at ha
            rw [Bool.and_eq_true] at hlc
            have hlen:=Nat.le_of_ble_eq_true hlc.1
            have hlcap:=Nat.le_of_ble_eq_true hlc.2
            rw [Option.bind_eq_some_iff] at ha
            obtain ⟨⟨t,cs⟩,hc,ha⟩:=ha
            simp only at ha
            cases hroom:Nat.ble (len+n) cap with
            | true =>
              simp only [hroom,cond_true,Option.bind_eq_some_iff] at ha
              have hroom':=Nat.le_of_ble_eq_true hroom
              obtain ⟨cs',hlay,ha⟩:=ha
              unfold gCells at ha
              rw [fSpine_eq] at ha
              obtain ⟨hb,ha⟩:=putObj_ok ha
              cases ha
              obtain ⟨w',hst,wt⟩:=lay_ok H hc hb hl hlay n1 n2
              refine ⟨_,σ,w',conc_slice.2 ⟨l,hl,rfl⟩,wt,?_⟩
              subst hsv
              rw [run_append_room (size:=size) (n:=n) (N:=N) (Z:=Z) (w':=w') a0 v0 v1 hu hsz hi hib hZR hn' (hzv w) hzt (fun q=>⟨(hzf q).1,(hzf q).2 w rfl⟩) hNs (by omega) (by
                simp only [add_plain]
                rw [← hst]
                congr 2
                congr 1
                omega)]
            | false =>
              simp only [hroom,cond_false,Option.bind_eq_some_iff] at ha
              have hroom':cap<len+n:=by
                rcases Nat.lt_or_ge cap (len+n) with q | q
                · exact q
                · rw [Nat.ble_eq_true_of_le q] at hroom;cases hroom
              obtain ⟨old,hrow,ha⟩:=ha
              obtain ⟨us,u1,u2,u3,u4,u5⟩:=H.row hc hl hrow
              have hold:∀ w',w'.heap=w.heap→∀ cp,(Builtin.firstCells size len (.slice (some ⟨l.blk,l.off+o,none⟩) len cp)).run P w' = .ok us.toArray w':=by
                intro w' hw' cp
                obtain ⟨us',k1,_,_,_,k5⟩:=(H.heap hw').row hc hl hrow
                rw [u1] at k1;cases k1
                simpa [Builtin.firstCells] using k5
              cases flex with
              | false =>
                simp only [cond_false] at ha
                exact grow (old:=old) (OLD:=us.toArray) hsv (by simpa using hroom') hlen (by simpa using u1) (by simpa using u2) (by simpa using u3) (fun w' hw'=>hold w' hw' _) (Went.refl H) ha
              | true =>
                simp only [cond_true] at ha
                cases hte:(Nat.beq t e && Nat.beq (o+cap * size) cs.length && Nat.beq o 0) with
                | false=>simp [hte] at ha
                | true =>
                  simp only [hte,cond_true] at ha
                  rw [Bool.and_eq_true,Bool.and_eq_true] at hte
                  have ht:=Nat.eq_of_beq_eq_true hte.1.1
                  have hcl:=Nat.eq_of_beq_eq_true hte.1.2
                  have ho0:o=0:=Nat.eq_of_beq_eq_true hte.2
                  have hom:o % size=0:=by rw [ho0];exact Nat.zero_mod _
                  subst ht
                  obtain ⟨hb,ha⟩:=putObj_ok ha
                  by_cases hfit:len+n≤cap+l.slack
                  · -- in the spare room
                    unfold newCells fCells at ha
                    rw [fAVs_eq] at ha
                    obtain ⟨hcb,ha⟩:=putObj_ok ha
                    rw [fNat_eq] at ha
                    cases ha
                    have hg:=cells?_iff.1 hc
                    obtain ⟨l',hl',ob⟩:=H.obj b _ hg
                    rw [hl] at hl';cases hl'
                    obtain ⟨C,fr,us0,k1,k2,k3,k4,k5,k6,k7⟩:=ob
                    have hus0:us0.length=o+cap * size:=by rw [concs_length k3];exact hcl.symm
                    obtain ⟨k,hk⟩:∃ k,cap+l.slack=len+n+k:=⟨cap+l.slack - (len+n),by omega⟩
                    have hmul:cap * size+l.slack * size=len * size+n * size+k * size:=by
                      rw [← Nat.add_mul,hk,Nat.add_mul,Nat.add_mul]
                    rw [hcell,hus0] at k6
                    have hNl:N.toList.length=n * size:=by simpa using hNs
                    have hbound:l.off+(o+len * size)+N.toList.length≤C.toList.length:=by
                      rw [hNl];simp only [Array.length_toList];omega
                    have hst:=run_storeCells (P:=P) k1 (fun j hj=>k2 j (Nat.lt_of_lt_of_le hj lim_le)) N.toList (l.off+(o+len * size)) 0 n2 (by simpa using hbound)
                    have hlt:l.blk<w.heap.size:=by
                      rcases Nat.lt_or_ge l.blk w.heap.size with h | h
                      · exact h
                      · rw [Array.getElem?_eq_none h] at k1;cases k1
                    have hll:=layL_length hbound
                    have wt:=move_ok (l':=⟨l.blk,l.off+o,k⟩) (o:=.cells t (old++new)) (O:=.cells ⟨layL C.toList (l.off+(o+len * size)) N.toList⟩ t fr) H hb hcb hl (by rw [hg];rfl) rfl (by rw [ho0];rfl) rfl
                      ⟨⟨layL C.toList (l.off+(o+len * size)) N.toList⟩,fr,us++N.toList,by simp only [Array.getElem?_setIfInBounds_self,if_pos hlt],fun j hj=>k2 j (by
                          have:j<lim P t (layL C.toList (l.off+(o+len * size)) N.toList).length:=by simpa using hj
                          rw [hll] at this;simpa using this),concs_ext (ext_upd (H.new c (Nat.le_refl _))) (concs_append u1 n1),allOne_append.2 ⟨u2,n2⟩,fun j y hj=>?_,?_⟩
                    · refine ⟨_, _, _, conc_slice.2 ⟨_, upd_same _ _ _, rfl⟩, wt, ?_⟩
                      subst hsv
                      rw [run_append_room (size:=size) (n:=n) (N:=N) (Z:=Z) (w':={ w with heap:=w.heap.setIfInBounds l.blk (.cells ⟨layL C.toList (l.off+(o+len * size)) N.toList⟩ t fr) }) a0 v0 v1 hu hsz hi hib hZR hn' (hzv w) hzt (fun q=>⟨(hzf q).1,(hzf q).2 w rfl⟩) hNs (by simpa using hfit) (by
                        simp only [add_plain]
                        rw [show l.off+o+len * size=l.off+(o+len * size) by omega,hst]
                        rfl)]
                      simp only [if_true,hk]
                      rfl
                    · simp only [List.getElem?_toArray]
                      rw [layL_get hbound]
                      rcases Nat.lt_or_ge j us.length with q | q
                      · rw [List.getElem?_append_left q] at hj
                        have hcj:=u4 j y hj
                        simp only [World.cell?,k1] at hcj
                        rw [if_pos (by omega)]
                        simpa using hcj
                      · rw [List.getElem?_append_right q] at hj
                        have hjl:j - us.length<N.toList.length:=by
                          rcases Nat.lt_or_ge (j - us.length) N.toList.length with q2 | q2
                          · exact q2
                          · rw [List.getElem?_eq_none q2] at hj;cases hj
                        rw [if_neg (by omega),if_pos (by omega),← hj]
                        congr 1
                        omega
                    · simp only [List.size_toArray]
                      rw [hll,List.length_append,u3,hNl,hcell]
                      simp only [Array.length_toList]
                      rw [hcell] at k7
                      exact ⟨by omega,by rw [Nat.add_mod,k7,hom];simp⟩
                  · exact grow (old:=old) (OLD:=us.toArray) hsv (by simpa using (by omega:cap+l.slack<len+n)) hlen (by simpa using u1) (by simpa using u2) (by simpa using u3) (fun w' hw'=>hold w' hw' _) (kill_ok H hb) ha
        · cases ha
  · cases ha
end
/- An evaluator of closed runs: copy, and maps. -/
section
variable {σ σ':Sig}{η:Env}{P:Program}

theorem copySrc_ok {h:Heap}{c size len m:Nat}{s:AV}{new:List AV}{sv:Value}{w:World}(hs:copySrc h size len s=some (m,new))(H:HR P σ η h c w)(hx:conc σ η s=some sv) :
    ∃ (N:Array Value) (sl:Nat),concs σ η new=some N.toList∧allOne N.toList=true∧m=Nat.min sl len∧(Builtin.lenOf sv).run P w = .ok sl w∧(Builtin.firstCells size m sv).run P w = .ok N w:=by
  unfold copySrc at hs
  split at hs
  · cases hs
    rw [conc_nils] at hx;subst hx
    exact ⟨#[],0,rfl,rfl,by simp,rfl,by simp [Builtin.firstCells]⟩
  · rename_i n so slen cp fl
    obtain ⟨l,hl,rfl⟩:=conc_slice.1 hx
    simp only [Option.bind_eq_some_iff,Option.map_eq_some_iff] at hs
    obtain ⟨⟨t,cs⟩,hc,r,hr,he⟩:=hs
    cases he
    obtain ⟨vs,h1,h2,h5⟩:=H.rrow hc hl hr
    exact ⟨vs.toArray,slen,by simpa using h1,by simpa using h2,rfl,rfl,by simpa [Builtin.firstCells] using h5⟩
  · rename_i t
    cases e1:Nat.beq size 1 with
    | false=>simp [e1] at hs
    | true =>
      simp only [e1,cond_true,Option.some.injEq,Prod.mk.injEq] at hs
      obtain ⟨rfl,rfl⟩:=hs
      obtain ⟨k1,rfl⟩:=conc_str.1 hx
      rw [nsTake_eq]
      have hb:∀ (l:List Nat),allB l=true→concs σ η (l.map fun b=>AV.int .u8 (.ofNat b))=some (l.map fun b=>Value.int .u8 (Int.ofNat b))∧allOne (l.map fun b=>Value.int .u8 (Int.ofNat b))=true:=by
        intro l
        induction l with
        | nil=>intro _;exact ⟨rfl,rfl⟩
        | cons y l ih=>intro hl;obtain ⟨_,h2⟩:=allB_cons.1 hl;obtain ⟨i1,i2⟩:=ih h2;exact ⟨concs_cons.2 ⟨_,_,conc_int.2 rfl,i1,rfl⟩,by simp only [List.map_cons,allOne,i2,Bool.and_true];rfl⟩
      have k2:allB (t.take (Nat.min t.length len))=true:=allB_sub k1 fun x hx=>List.mem_of_mem_take hx
      obtain ⟨b1,b2⟩:=hb _ k2
      refine ⟨((t.take (Nat.min t.length len)).map fun b=>Value.int .u8 (Int.ofNat b)).toArray,t.length,by simpa using b1,by simpa using b2,rfl,by simp [Builtin.lenOf,bs_size],?_⟩
      have hex:(bs t).extract 0 (Nat.min t.length len)=bs (t.take (Nat.min t.length len)):=by rw [bs_extract];simp
      simp only [Builtin.firstCells,hex,Sem.run_pure]
      congr 1
      apply Array.toList_inj.1
      simp only [bs,Array.toList_map,List.map_map]
      apply List.map_congr_left
      intro b hbm
      have:b<256:=by simp only [allB,List.all_eq_true,decide_eq_true_eq] at k2;exact k2 b hbm
      simp [Function.comp,u8_toNat this]
  · cases hs

theorem aCopy_ok {h:Heap}{c dt:Nat}{d s:AV}{out:Out}{as:Array TypeId}{vs:Array Value}{ty:TypeId}{dv sv:Value}{w:World}(ha:aCopy P h c dt d s=some out)(H:HR P σ η h c w)
    (hd:conc σ η d=some dv)(hs:conc σ η s=some sv)(a0:as[0]? = some dt)(v0:vs[0]? = some dv)(v1:vs[1]? = some sv):ValR P η σ h c w (Builtin.copy_ as ty vs) out:=by
  unfold aCopy at ha
  split at ha
  · rename_i e hu
    cases es:size? P e with
    | none=>simp [es] at ha
    | some size =>
      simp only [es] at ha
      split at ha
      · rw [conc_nils] at hd; subst hd
        have main:∀ sl,(Builtin.lenOf sv).run P w = .ok sl w→(Builtin.firstCells size 0 sv).run P w = .ok #[] w→ValR P η σ h c w (Builtin.copy_ as ty vs) (.val (.int .i64 (.ofNat 0)) h c):=by
          intro sl h1 h2
          refine ⟨_,σ,w,conc_int.2 rfl,Went.refl H,?_⟩
          have hm:Nat.min sl 0=0:=by simp
          simp only [Builtin.copy_,a0,v0,v1,Sem.run_bind,run_underlying hu,Result.andThen_ok,h1,hm,run_sizeOf? es,h2,Sem.run_pure,goInt]
          rfl
        split at ha
        · cases ha
          rw [conc_nils] at hs;subst hs
          exact main 0 rfl (by simp [Builtin.firstCells])
        · cases ha
          obtain ⟨l,hl,rfl⟩:=conc_slice.1 hs
          exact main _ rfl (by simp [Builtin.firstCells,loadCells,loadCellsFrom])
        · cases ha
      · rename_i b o len cap fl
        obtain ⟨l,hl,rfl⟩:=conc_slice.1 hd
        simp only [Option.bind_eq_some_iff] at ha
        obtain ⟨⟨m,new⟩,hsrc,⟨t,cs⟩,hc,cs',hlay,ha⟩:=ha
        unfold gCells at ha
        rw [fSpine_eq] at ha
        obtain ⟨hb,ha⟩:=putObj_ok ha
        rw [fNat_eq] at ha
        cases ha
        obtain ⟨N,sl,n1,n2,n3,n4,n5⟩:=copySrc_ok hsrc H hs
        obtain ⟨w',hst,wt⟩:=lay_ok H hc hb hl hlay n1 n2
        refine ⟨_,σ,w',conc_int.2 rfl,wt,?_⟩
        subst n3
        simp only [Builtin.copy_,a0,v0,v1,Sem.run_bind,run_underlying hu,Result.andThen_ok,n4,run_sizeOf? es,n5,hst,Sem.run_pure,goInt]
        rfl
      · cases ha
  · cases ha

/-! ### maps -/
theorem EsR.set:∀ {es:List (AV × AV × Nat)}{ms:List MapEntry}(i:Nat){k v:AV}{kv vv:Value},EsR σ η es ms→conc σ η k=some kv→conc σ η v=some vv→EsR σ η (setE es i k v) (ms.modify i fun e=>{ e with key:=kv,val:=vv })
  | [],[],i,_,_,_,_,_,_,_=>by simp [setE,EsR]
  | (a,b,n)::es,m::ms,0,k,v,kv,vv,⟨h1,h2,h3,h4⟩,hk,hv=>by simp only [setE,List.modify_zero_cons];exact ⟨hk,hv,h3,h4⟩
  | (a,b,n)::es,m::ms,i+1,k,v,kv,vv,⟨h1,h2,h3,h4⟩,hk,hv=>by simp only [setE,List.modify_succ_cons];exact ⟨h1,h2,h3,h4.set i hk hv⟩
  | [],_::_,_,_,_,_,_,h,_,_=>h.elim
  | (_,_,_)::_,[],_,_,_,_,_,h,_,_=>h.elim
theorem EsR.setKey:∀ {es:List (AV × AV × Nat)}{ms:List MapEntry}(i:Nat){k v:AV}{kv:Value}{e:MapEntry},EsR σ η es ms→conc σ η k=some kv→ms[i]? = some e→conc σ η v=some e.val→EsR σ η (setE es i k v) (ms.modify i fun e=>{ e with key:=kv })
  | [],[],i,_,_,_,_,_,_,_,_=>by simp [setE,EsR]
  | (a,b,n)::es,m::ms,0,k,v,kv,e,⟨h1,h2,h3,h4⟩,hk,he,hv=>by simp at he;subst he;simp only [setE,List.modify_zero_cons];exact ⟨hk,hv,h3,h4⟩
  | (a,b,n)::es,m::ms,i+1,k,v,kv,e,⟨h1,h2,h3,h4⟩,hk,he,hv=>by simp only [setE,List.modify_succ_cons];exact ⟨h1,h2,h3,h4.setKey i hk (by simpa using he) hv⟩
  | [],_::_,_,_,_,_,_,h,_,_,_=>h.elim
  | (_,_,_)::_,[],_,_,_,_,_,h,_,_,_=>h.elim
theorem EsR.push:∀ {es:List (AV × AV × Nat)}{ms:List MapEntry}{k v:AV}{kv vv:Value}{n:Nat},EsR σ η es ms→conc σ η k=some kv→conc σ η v=some vv→EsR σ η (pushE es (k,v,n)) (ms++[{ key:=kv,val:=vv,born:=n }])
  | [],[],_,_,_,_,_,_,hk,hv=>⟨hk,hv,rfl,trivial⟩
  | (_,_,_)::_,_::_,_,_,_,_,_,⟨h1,h2,h3,h4⟩,hk,hv=>⟨h1,h2,h3,h4.push hk hv⟩
  | [],_::_,_,_,_,_,_,h,_,_=>h.elim
  | (_,_,_)::_,[],_,_,_,_,_,h,_,_=>h.elim
theorem EsR.drop:∀ {es:List (AV × AV × Nat)}{ms:List MapEntry}(i:Nat),EsR σ η es ms→EsR σ η (dropE es i) (ms.eraseIdx i)
  | [],[],i,_=>by simp [dropE,EsR]
  | (a,b,n)::es,m::ms,0,⟨_,_,_,h4⟩=>by simpa [dropE] using h4
  | (a,b,n)::es,m::ms,i+1,⟨h1,h2,h3,h4⟩=>by simp only [dropE,List.eraseIdx_cons_succ];exact ⟨h1,h2,h3,h4.drop i⟩
  | [],_::_,_,h=>h.elim
  | (_,_,_)::_,[],_,h=>h.elim
theorem EsR.stamp:∀ {es es':List (AV × AV × Nat)}{ms:List MapEntry}{s:Nat}{v:AV}{vv:Value},setStamp es s v=some es'→EsR σ η es ms→conc σ η v=some vv →
    ∃ i,ms.findIdx? (fun e=>(e.born:Int) == (s:Int))=some i∧EsR σ η es' (ms.modify i fun e=>{ e with val:=vv })
  | [],_,_,s,v,vv,h,_,_=>by simp [setStamp] at h
  | (_,_,_)::_,_,[],_,_,_,_,hr,_=>hr.elim
  | (a, b, n) :: es, es', m :: ms, s, v, vv, h, ⟨h1, h2, h3, h4⟩, hv => by
    simp only [setStamp] at h
    cases e:Nat.beq n s with
    | true =>
      simp only [e,cond_true,Option.some.injEq] at h
      subst h
      have:=Nat.eq_of_beq_eq_true e
      refine ⟨0,by simp [List.findIdx?_cons,h3,this],?_⟩
      simp only [List.modify_zero_cons]
      exact ⟨h1,hv,h3,h4⟩
    | false =>
      simp only [e,cond_false,Option.map_eq_some_iff] at h
      obtain ⟨es1,h5,rfl⟩:=h
      obtain ⟨i,i1,i2⟩:=h4.stamp h5 hv
      have hne:n≠s:=fun q=>by subst q;simp at e
      refine ⟨i+1,?_,?_⟩
      · have : ((m.born : Int) == (s : Int)) = false := by rw [h3]; simp; omega
        simp [List.findIdx?_cons,this,i1]
      · simp only [List.modify_succ_cons]
        exact ⟨h1,h2,h3,i2⟩

theorem run_setMap {b:Nat}{ms:Array MapEntry}{cl:Nat}{o:Obj}{w:World}(h:w.heap[b]? = some (.map ms cl)):(setObj b o).run P w = .ok () { w with heap:=w.heap.setIfInBounds b o }:=by simp only [setObj,Sem.run,h]

theorem stays {kv:Value}(h:(∃ k n,kv = .int k n)∨∃ s,kv = .string s)(w:World):(Instr.keyThatStays kv kv).run P w = .ok kv w:=by
  have:Instr.sameBits 10000 kv kv=true:=by
    rcases h with ⟨k,n,rfl⟩ | ⟨s,rfl⟩
    · simp [Instr.sameBits]
    · simp [Instr.sameBits,beq_toListBytes]
  simp [Instr.keyThatStays,this]
theorem keyOk_kind {t:TypeId}{k:AV}{kv:Value}(h:keyOk P t k=true)(hk:conc σ η k=some kv):(∃ k n,kv = .int k n)∨∃ s,kv = .string s:=by
  unfold keyOk at h
  split at h
  · rw [conc_int] at hk;exact .inl ⟨_,_,hk⟩
  · obtain ⟨_,rfl⟩:=conc_str.1 hk;exact .inr ⟨_,rfl⟩
  · cases h

/-- The map of a name. -/
theorem HR.mapAt {h:Heap}{c n:Nat}{es:List (AV × AV × Nat)}{cl:Nat}{w:World}{l:Loc}(H:HR P σ η h c w)(hg:h.get n=some (.map es cl))(hl:σ n=some l):∃ ms,w.heap[l.blk]? = some (.map ms cl)∧EsR σ η es ms.toList:=by
  obtain ⟨l',hl',ob⟩:=H.obj n _ hg
  rw [hl] at hl';cases hl'
  exact ob

theorem putMap_ok {h:Heap}{n cl:Nat}{es:List (AV × AV × Nat)}{k:Heap→Option Out}{r:Out}(e:putMap h n es cl k=some r):n≤bigN∧k (h.set deep n (some (.map es cl)))=some r:=by
  unfold putMap at e
  rw [fEs_eq,fNat_eq] at e
  exact putObj_ok e

/-- A map is laid anew. -/
theorem map_ok {h:Heap}{c n cl cl':Nat}{es es':List (AV × AV × Nat)}{ms ms':Array MapEntry}{w:World}{l:Loc}(H:HR P σ η h c w)(hn:n≤bigN)(hg:h.get n=some (.map es cl))(hl:σ n=some l)(hb:w.heap[l.blk]? = some (.map ms cl))(hr:EsR σ η es' ms'.toList) :
    Went P η σ h c w σ (h.set deep n (some (.map es' cl'))) c { w with heap:=w.heap.setIfInBounds l.blk (.map ms' cl') }:=by
  have hlt:l.blk<w.heap.size:=by
    rcases Nat.lt_or_ge l.blk w.heap.size with h | h
    · exact h
    · rw [Array.getElem?_eq_none h] at hb;cases hb
  exact put_ok H hn hl (by rw [hg];rfl) rfl ⟨ms',by simp only [Array.getElem?_setIfInBounds_self,if_pos hlt],hr⟩

theorem aUpdate_ok {h:Heap}{c t kt et n cl:Nat}{es:List (AV × AV × Nat)}{k x:AV}{kv xv:Value}{w:World}{l:Loc}{r:Option (Nat × AV × Nat)}{out:Out}(H:HR P σ η h c w)(hu:P.underlying t=some (.map kt et))(hk:keyOk P kt k=true)(hg:h.get n=some (.map es cl))(hf:findE k es 0=some r)
    (ho:updA h c n es cl k x r=some out)(hl:σ n=some l)(ck:conc σ η k=some kv)(cx:conc σ η x=some xv) :
    ∃ h' w',out = .val uv h' c∧Went P η σ h c w σ h' c w'∧(Instr.mapUpdate t (.map (some l.blk)) kv xv).run P w = .ok () w':=by
  obtain ⟨ms,m1,m2⟩:=H.mapAt hg hl
  obtain ⟨c1,d,hd,fk⟩:=keyOk_ok hk ck
  have c1':(Instr.checkKey false 10000 kt kv).run P w = .ok () w:=c1 false 9999 w
  rcases fk es ms.toList 0 r hf m2 with ⟨rfl,e2⟩ | ⟨j,v,b,vv,rfl,e2,e3,k',kv',e,e4,e5,e6,e7,e8,e9,_⟩
  · simp only [updA] at ho
    obtain ⟨hn,ho⟩:=putMap_ok ho
    cases ho
    refine ⟨_,_,rfl,map_ok H hn hg hl m1 (ms':=ms.push { key:=kv,val:=xv,born:=cl }) (by simpa using m2.push ck cx),?_⟩
    simp only [Instr.mapUpdate,Sem.run_bind,run_underlying hu,Result.andThen_ok,run_getMap m1,c1',run_findKey hd e2,run_setMap m1]
  · simp only [Nat.zero_add, updA] at ho e3
    obtain ⟨hn,ho⟩:=putMap_ok ho
    cases ho
    have e5':ms[j]? = some e:=by simpa using e5
    refine ⟨_,_,rfl,map_ok H hn hg hl m1 (ms':=ms.modify j fun e=>{ e with key:=kv,val:=xv }) (by rw [Array.toList_modify];exact m2.set j ck cx),?_⟩
    simp only [Instr.mapUpdate,Sem.run_bind,run_underlying hu,Result.andThen_ok,run_getMap m1,c1',run_findKey hd e3,e5',Option.map_some,Option.getD_some,e9,stays (keyOk_kind hk ck),run_setMap m1]
end
/- An evaluator of closed runs: its operations that turn the heap are the model's. -/
section
variable {σ σ':Sig}{η:Env}{P:Program}

/-- What an operation of a region comes to. -/
def OutR (P:Program)(η:Env)(σ:Sig)(h:Heap)(c:Nat)(w:World)(s:Sem Next):Out→Prop
  | .val v h' c'=>∃ u σ' w' nx,conc σ' η v=some u∧Went P η σ h c w σ' h' c' w'∧s.run P w = .ok nx w'∧(nx = .value u∨(nx = .skip∧u=undef))
  | .enter t args => ∃ avs, concs σ η args = some avs ∧ match t with
    | .fn f=>s.run P w=(callFunc f avs.toArray).run P w
    | .yld n=>∃ l,σ n=some l∧s.run P w=(Instr.yield l.blk avs.toArray).run P w

theorem ValR.out {h:Heap}{c:Nat}{w:World}{s:Sem Value}{o:Out}(H:ValR P η σ h c w s o):OutR P η σ h c w (do pure (.value (← s))) o:=by
  cases o with
  | val v h' c'=>obtain ⟨u,σ',w',h1,h2,h3⟩:=H;exact ⟨u,σ',w',_,h1,h2,by rw [Sem.run_bind,h3];rfl,.inl rfl⟩
  | enter f a=>exact H.elim
theorem ValR.run {h:Heap}{c:Nat}{w:World}{s:Sem Value}{s':Sem Next}{o:Out}(H:ValR P η σ h c w s o)(e:s'.run P w=(s.run P w).andThen fun v w'=>.ok (.value v) w'):OutR P η σ h c w s' o:=by
  cases o with
  | val v h' c'=>obtain ⟨u,σ',w',h1,h2,h3⟩:=H;exact ⟨u,σ',w',_,h1,h2,by rw [e,h3];rfl,.inl rfl⟩
  | enter f a=>exact H.elim

/-- A name goes, and its block turns. -/
theorem drop_ok {h:Heap}{c n:Nat}{w w':World}{l:Loc}(H:HR P σ η h c w)(hn:n≤bigN)(hl:σ n=some l)(hlive:(h.get n).isSome=true)(hsz:w'.heap.size=w.heap.size)(hw:∀ k,k≠l.blk→w'.heap[k]? = w.heap[k]?)(e1:w'.os=w.os)(e2:w'.tape=w.tape)(e3:w'.output=w.output) :
    Went P η σ h c w σ (h.set deep n none) c w':=by
  have back:∀ m,((h.set deep n none).get m).isSome=true→m≠n∧(h.get m).isSome=true:=by
    intro m hm;rw [get_put hn] at hm;split at hm
    · cases hm
    · rename_i q;exact ⟨q,hm⟩
  refine ⟨Ext.refl _,⟨fun m o hm=>?_,fun a b x y ha hb=>H.inj a b x y (back a ha).2 (back b hb).2,H.new,H.glob⟩,⟨e1,e2,e3,by omega,fun k hk hS=>hw k fun q=>hS ⟨n,l,hlive,hl,q.symm⟩⟩,fun b _ ⟨m,x,hm,hx,e⟩=>⟨m,x,(back m hm).2,hx,e⟩,fun m x hm hx=>.inr ⟨m,x,(back m hm).2,hx,rfl⟩⟩
  have hb:=back m (by rw [hm];rfl)
  rw [get_put hn,if_neg hb.1] at hm
  obtain ⟨x,hx,ob⟩:=H.obj m o hm
  exact ⟨x,hx,ob.block (hw _ fun q=>hb.1 (H.inj m n x l (by rw [hm];rfl) hlive hx hl q))⟩

/-- A name is given to no object. -/
theorem name_ok {h:Heap}{c:Nat}{w:World}(H:HR P σ η h c w)(l:Loc):Went P η σ h c w (upd σ c l) h (c+1) w:=by
  have hx:=ext_upd (l:=l) (H.new c (Nat.le_refl _))
  have old:∀ n,(h.get n).isSome=true→n≠c:=by
    intro n hn q
    subst q
    cases e:h.get n with
    | none=>rw [e] at hn;cases hn
    | some o=>obtain ⟨l',hl',_⟩:=H.obj n o e;rw [H.new n (Nat.le_refl _)] at hl';cases hl'
  refine ⟨hx,⟨fun m o hm=>?_,fun a b x y ha hb hxa hxb e=>?_,fun n hn=>?_,fun g hg=>?_⟩,Kept.refl _ _,fun b _ ⟨m,x,hm,hmx,e⟩=>?_,fun m x hm hmx=>?_⟩
  · obtain ⟨x,hx1,ob⟩:=H.obj m o hm;exact ⟨x,hx m x hx1,ob.ext hx⟩
  · rw [upd_other (old a ha)] at hxa;rw [upd_other (old b hb)] at hxb;exact H.inj a b x y ha hb hxa hxb e
  · rw [upd_other (by omega)];exact H.new n (by omega)
  · obtain ⟨s,hs⟩:=H.glob g hg;exact ⟨s,hx _ _ hs⟩
  · rw [upd_other (old m hm)] at hmx;exact ⟨m,x,hm,hmx,e⟩
  · rw [upd_other (old m hm)] at hmx;exact .inr ⟨m,x,hm,hmx,rfl⟩

theorem run_loadBytes {w:World}{b:Nat}:∀ (s:List Nat)(p:Nat)(acc:ByteArray),allB s=true→(∀ j x,s[j]? = some x→w.cell? ⟨b,p+j,none⟩=some (.int .u8 (Int.ofNat x))) →
    (loadBytes ⟨b,p,none⟩ acc s.length).run P w = .ok ⟨acc.data++(s.map Nat.toUInt8).toArray⟩ w
  | [],p,acc,_,_=>by simp [loadBytes]
  | x :: s, p, acc, hs, h => by
    obtain ⟨h1,h2⟩:=allB_cons.1 hs
    have h0:=h 0 x rfl
    simp only [Nat.add_zero] at h0
    have ih:=run_loadBytes (w:=w) (b:=b) s (p+1) (acc.push x.toUInt8) h2 (fun j y hj=>by have:=h (j+1) y (by simpa using hj);rwa [show p+1+j=p+(j+1) by omega])
    simp only [List.length_cons,loadBytes,Sem.run_bind,run_load,h0,Result.andThen_ok,add_plain]
    have:((Int.ofNat x).toNat).toUInt8=x.toUInt8:=rfl
    rw [this,ih]
    congr 2
    simp [ByteArray.push]

theorem bytesElem_ok {e:TypeId}(h:bytesElem P e=true):P.underlying e=some (.int .u8)∧size? P e=some 1:=by
  unfold bytesElem at h
  split at h
  · rename_i h1 h2;exact ⟨h1,h2⟩
  · cases h

theorem run_variablesAt {u b o n cs:Nat}{c:Array Value}{fr:Nat × Nat}{w:World}(hb:w.heap[b]? = some (.cells c u fr))(hs:size? P u=some 1)(hn:o+n≤cs)(hc:cs=c.size):(variablesAt ⟨b,o,none⟩ u n).run P w = .ok true w:=by
  have hcell:=cellsOf_of hs
  obtain ⟨d,hd⟩:∃ d,P.depth=d+1:=⟨2 * (P.types.size+Made.depth)+1,by unfold Program.depth;omega⟩
  have hsh:w.shape? b=some (u,c.size):=by simp only [World.shape?,hb]
  simp only [variablesAt,Sem.run_bind,run_program,Result.andThen_ok,run_shape,hsh,Sem.run_pure]
  have hlay:sameLayout P (d+1) u u=true:=by simp [sameLayout]
  have:liesAt P (d+1) u (c.size / P.cellsOf u) o u n=true:=by
    simp only [liesAt,Bool.or_eq_true]
    left
    rw [hd]
    simp only [rowAt,hcell,Nat.div_one,Nat.mod_one]
    simp [hlay]
    left
    omega
  rw [hd,this]

theorem zeroCells_size {Z:Array Value}{n:Nat}:(Builtin.zeroCells Z n).size=n * Z.size:=by
  have:=congrArg List.length (zeroCells_eq Z n)
  simpa using this

/-- An object turns, whatever its block's new object is. -/
theorem put2_ok {h:Heap}{c n:Nat}{w w':World}{l:Loc}{o:AObj}(H:HR P σ η h c w)(hn:n≤bigN)(hl:σ n=some l)(hlive:(h.get n).isSome=true)(hsz:w'.heap.size=w.heap.size)(hw:∀ k,k≠l.blk→w'.heap[k]? = w.heap[k]?)(e1:w'.os=w.os)(e2:w'.tape=w.tape)(e3:w'.output=w.output)(ho:ObjR P σ η w' l o) :
    Went P η σ h c w σ (h.set deep n (some o)) c w':=by
  have live:∀ m,((h.set deep n (some o)).get m).isSome=true→(h.get m).isSome=true:=by
    intro m hm;rw [get_put hn] at hm;split at hm
    · rename_i e;subst e;exact hlive
    · exact hm
  refine ⟨Ext.refl _,⟨fun m q hm=>?_,fun a b x y ha hb=>H.inj a b x y (live a ha) (live b hb),H.new,H.glob⟩,⟨e1,e2,e3,by omega,fun k hk hS=>hw k fun q=>hS ⟨n,l,hlive,hl,q.symm⟩⟩,fun b _ ⟨m,x,hm,hx,e⟩=>⟨m,x,live m hm,hx,e⟩,fun m x hm hx=>.inr ⟨m,x,live m hm,hx,rfl⟩⟩
  rw [get_put hn] at hm
  split at hm
  · rename_i e;subst e;cases hm;exact ⟨l,hl,ho⟩
  · rename_i e
    obtain ⟨x,hx,ob⟩:=H.obj m q hm
    exact ⟨x,hx,ob.block (hw _ fun q'=>e (H.inj m n x l (by rw [hm];rfl) hlive hx hl q'))⟩

/-- Cells that may be frozen. -/
theorem HR.frz {h:Heap}{c n t:Nat}{cs:List AV}{w:World}(H:HR P σ η h c w)(hn:frz? h n=some (t,cs)){l:Loc}(hl:σ n=some l):(h.get n).isSome=true ∧
    ∃ (C:Array Value) (fr:Nat × Nat) (vs:List Value),w.heap[l.blk]? = some (.cells C t fr)∧concs σ η cs=some vs∧(∀ i v,vs[i]? = some v→C[l.off+i]? = some v)∧allOne vs=true:=by
  unfold frz? at hn
  split at hn
  · rename_i z cs' e
    cases hn
    obtain ⟨l',hl',ob⟩:=H.obj n _ e
    rw [hl] at hl';cases hl'
    obtain ⟨C,fr,vs,h1,_,h3,h4,h5,_⟩:=ob
    exact ⟨by rw [e];rfl,C,fr,vs,h1,h3,h5,h4⟩
  · rename_i z cs' e
    cases hn
    obtain ⟨l',hl',C,fr,vs,h1,h3,h5⟩:=H.obj n _ e
    rw [hl] at hl';cases hl'
    exact ⟨by rw [e];rfl,C,fr,vs,h1,h3,h5⟩
  · cases hn

theorem methA_ok {t:TypeId}{name:String}{f:Nat}{e:Option TypeId}(h:methA P t name=some (f,e))(k:Nat) :
    (e=none→∀ v w,(method (k+1) t v name).run P w = .ok (f,v) w)∧(∀ el,e=some el→∀ a u w,(loadVar el a).run P w = .ok u w→(method (k+1) t (.pointer (some a)) name).run P w = .ok (f,u) w):=by
  unfold methA at h
  split at h
  · cases h
  · rename_i i hi
    split at h
    · cases h
    · rename_i m hm
      cases hp:m.path.isEmpty with
      | false=>simp [hp] at h
      | true =>
        simp only [hp,cond_true] at h
        have hpath:m.path.toList=[]:=by simpa using hp
        split at h
        · cases h
        · rename_i f' pr hf
          have hmeth:∀ v w,(method (k+1) t v name).run P w=(do pure (f',← receiverAt t (.val v) pr (some ((name.splitOn ".").getLastD name))):Sem (FuncId × Value)).run P w:=by
            intro v w
            have hinfo:(typeInfo t).run P w = .ok i w:=by simp [typeInfo,hi]
            simp only [method,Sem.run_bind,hinfo,Result.andThen_ok,hm,hpath,follow,Sem.run_pure,hf,hp,if_true]
          split at h
          · rename_i el hu
            cases pr with
            | true =>
              simp only [cond_true,Option.some.injEq,Prod.mk.injEq] at h
              obtain ⟨rfl,rfl⟩:=h
              refine ⟨fun _ v w=>?_,fun el h=>by cases h⟩
              rw [hmeth]
              simp only [receiverAt,Sem.run_bind,run_underlying hu,Result.andThen_ok,Place.get,Sem.run_pure]
            | false =>
              simp only [cond_false,Option.some.injEq,Prod.mk.injEq] at h
              obtain ⟨rfl,rfl⟩:=h
              refine ⟨fun h=>(by cases h),fun el' h a u w hl=>?_⟩
              cases h
              rw [hmeth]
              have hw:(Builtin.ssaWrapNilChk_ #[t] t #[.pointer (some a), strVal "",strVal ((name.splitOn ".").getLastD name)]).run P w = .ok (.pointer (some a)) w:=rfl
              simp only [receiverAt,Sem.run_bind,run_underlying hu,Result.andThen_ok,Place.get,Sem.run_pure,hw,asAddr,hl]
          · rename_i d hnp hu
            cases pr with
            | true=>simp at h
            | false =>
              simp only [cond_false,Option.some.injEq,Prod.mk.injEq] at h
              obtain ⟨rfl,rfl⟩:=h
              refine ⟨fun _ v w=>?_,fun el h=>by cases h⟩
              rw [hmeth]
              simp only [receiverAt,Sem.run_bind,run_underlying hu,Result.andThen_ok]
              cases d <;> first | rfl | exact absurd hu (hnp _)
          · cases h

/-- unsafe.String, as it runs at a pointer and a number. -/
theorem us_def (as:Array TypeId)(ty pt:TypeId)(k:IntKind)(p:Option Addr)(n:Nat)(h:as[0]? = some pt)(hn:n≤9223372036854775807)(w:World):(Builtin.unsafeString_ as ty #[.pointer p,.int k (Int.ofNat n)]).run P w =
    (match p with
      | none=>if n=0 then pure (.string .empty) else runtimePanic (.error "unsafe.String: ptr is nil and len is not zero")
      | some a=>if n=0 then pure (.string .empty) else (elemOf pt).bind fun u=>(variablesAt a u n).bind fun b=>if b then (loadBytes a .empty n).bind fun s=>(freeze a n).bind fun _=>pure (.string s) else unsupported (.unsafePointer "String: not so many bytes at ptr"):Sem Value).run P w:=by
  have hdef:Builtin.unsafeString_ as ty #[.pointer p,.int k (Int.ofNat n)]=(do
        let n ← asInt (.int k (Int.ofNat n))
        let some pt:=as[0]? | stuck "unsafe.String: no argument types"
        if n<0 then runtimePanic (.error "unsafe.String: len out of range")
        if n > IntKind.i64.max then unsupported (.unsafePointer "String: a length above the largest int")
        match p with
        | none =>
          if n=0 then pure (.string .empty)
          else runtimePanic (.error "unsafe.String: ptr is nil and len is not zero")
        | some a =>
          if n=0 then pure (.string .empty)
          else if ← variablesAt a (← elemOf pt) n.toNat then do
            let s ← loadBytes a .empty n.toNat
            freeze a n.toNat
            pure (.string s)
          else unsupported (.unsafePointer "String: not so many bytes at ptr")):=rfl
  have hneg:¬ (Int.ofNat n<0):=by simp
  have hmax:¬ (Int.ofNat n > IntKind.i64.max):=by
    simp only [IntKind.max,IntKind.signed,IntKind.bits,if_true,Int.ofNat_eq_natCast];omega
  have hz:(Int.ofNat n=0)=(n=0):=by simp
  rw [hdef]
  simp only [asInt,asIntOf,Sem.run_bind,Sem.run_pure,Result.andThen_ok,h,if_neg hneg,if_neg hmax,hz]
  cases p with
  | none=>rfl
  | some a =>
    by_cases q:n=0
    · simp [q]
    · simp only [if_neg q, Sem.run_bind, Sem.run_bind', Int.ofNat_eq_natCast, Int.toNat_natCast]
      congr 1

theorem run_us_nil {as:Array TypeId}{ty pt:TypeId}{k:IntKind}{w:World}(h:as[0]? = some pt):(Builtin.unsafeString_ as ty #[.pointer none,.int k 0]).run P w = .ok (.string (bs [])) w:=
  us_def as ty pt k none 0 h (by omega) w
theorem run_us_zero {as:Array TypeId}{ty pt:TypeId}{k:IntKind}{a:Addr}{w:World}(h:as[0]? = some pt):(Builtin.unsafeString_ as ty #[.pointer (some a),.int k 0]).run P w = .ok (.string (bs [])) w:=
  us_def as ty pt k (some a) 0 h (by omega) w
theorem run_us_some {as:Array TypeId}{ty pt u:TypeId}{k:IntKind}{a:Addr}{m:Nat}{s:ByteArray}{w:World}(h:as[0]? = some pt)(hm:m+1≤9223372036854775807)(hp:P.underlying pt=some (.pointer u))(hv:(variablesAt a u (m+1)).run P w = .ok true w)(hl:(loadBytes a .empty (m+1)).run P w = .ok s w) :
    (Builtin.unsafeString_ as ty #[.pointer (some a),.int k (Int.ofNat (m+1))]).run P w = .ok (.string s) (w.freeze a (m+1)):=by
  rw [us_def as ty pt k (some a) (m+1) h hm w]
  have he:(elemOf pt).run P w = .ok u w:=by simp [elemOf,run_underlying hp]
  simp only [Nat.add_one_ne_zero,if_false,Sem.run_bind',he,Result.andThen_ok,hv,if_true,hl,run_freeze,Sem.run_pure]

theorem run_stringToBytes {el k:Nat}{s:ByteArray}{C:Array Value}{w:World}(hC:s.data.map (fun b=>Value.int .u8 b.toNat)++Array.replicate k (Value.int .u8 0)=C)(hk:(Question.appendCap s.size 0 el).cut (w.tape w.drawn (.appendCap s.size 0 el))=s.size+k) :
    (Conv.stringToBytes el s).run P w = .ok (.slice (some ⟨w.heap.size,0,none⟩) s.size (s.size+k)) { w.drew with heap:=w.heap.push (.cells C el (C.size,C.size+1)) }:=by
  have hch:(choose (.appendCap s.size 0 el)).run P w = .ok (s.size+k) w.drew:=by
    rw [run_choose]
    simp only [Question.forced,Bool.false_eq_true,if_false,hk]
    rfl
  have hks:s.size+k - s.size=k:=by omega
  have hsh:({ w.drew with heap:=w.heap.push (.cells C el) }:World).shape? w.heap.size=some (el,C.size):=by simp [World.shape?]
  have e1:({ w.drew with heap:=w.heap.push (.cells C el) }:World).freeze ⟨w.heap.size,C.size,none⟩ 1={ w.drew with heap:=w.heap.push (.cells C el (C.size,C.size+1)) }:=by
    simp only [World.freeze,Nat.one_ne_zero,if_false]
    congr 1
    apply Array.ext_getElem?
    intro i
    rw [Array.getElem?_modify]
    by_cases q:w.heap.size=i
    · subst q;simp
    · simp only [q, if_false, Array.getElem?_push]
      rw [if_neg (fun q2=>q q2.symm),if_neg (fun q2=>q q2.symm)]
  have e2:({ w.drew with heap:=w.drew.heap.push (.cells C el) }:World)={ w.drew with heap:=w.heap.push (.cells C el) }:=rfl
  simp only [Conv.stringToBytes,Sem.run_bind,hch,Result.andThen_ok,newRow,run_newObj,Sem.run_pure,hks,hC,markStringish,run_shape,World.size_drew,e2,hsh,run_freeze,e1]

/-! ### operations that lay a new block -/
def mkV (c:Nat):Option (Nat × Nat)→AV
  | none=>.ptr c 0
  | some (a,b)=>.slice c 0 a b false
def mkU (b:Nat):Option (Nat × Nat)→Value
  | none=>.pointer (some ⟨b,0,none⟩)
  | some (a,k)=>.slice (some ⟨b,0,none⟩) a k
/-- The block that is laid: its type, its cells, what is handed back. -/
def freshA (P:Program)(ρ:Operand→AV):Op→Option (Nat × List AV × Option (Nat × Nat))
  | .alloc e=>(zero? P e).map fun z=>(e,z.cells,none)
  | .box e x=>bif (ρ x).laid then some (e,(ρ x).cells,none) else none
  | .buildSlice t len parts => match P.underlying t with
    | some (.slice e) => match size? P e, zero? P e with
      | some s,some z=>bif Nat.ble (len * s) 16777216 && Nat.beq z.cells.length s then
          (fillA (arrPlaces s 0 len) (rep z.cells len) (parts.toList.map fun p=>(p.1,ρ p.2))).map fun cs=>(e,cs,some (len,len))
        else none
      | _,_=>none
    | _=>none
  | .makeSlice t l m => match P.underlying t with
    | some (.slice e) => match idx? (ρ l), idx? (ρ m), size? P e, bytes? P e, zero? P e with
      | some l,some m,some s,some b,some z=>bif Nat.ble l m && Nat.ble m appendMax && Nat.ble b appendMax && Nat.beq z.cells.length s then some (e,rep z.cells m,some (l,m)) else none
      | _,_,_,_,_=>none
    | _=>none
  | _=>none

theorem aEff_fresh {ρ:Operand→AV}{h:Heap}{c:Nat}{op:Op}(hf:isFresh op=true):aEff P ρ h c op=(freshA P ρ op).bind fun x=>newCells h c x.1 x.2.1 (mkV c x.2.2):=by
  cases op <;> first | (simp [isFresh] at hf;done) | skip
  · rename_i e
    simp only [aEff,freshA]
    cases zero? P e <;> rfl
  · rename_i e x
    simp only [aEff,freshA]
    cases (ρ x).laid <;> rfl
  · rename_i t len parts
    simp only [aEff,freshA]
    cases P.underlying t with
    | none=>rfl
    | some d =>
      cases d <;> first | rfl | skip
      rename_i e
      simp only
      cases size? P e with
      | none=>rfl
      | some s =>
        cases zero? P e with
        | none=>rfl
        | some z =>
          simp only
          cases (Nat.ble (len * s) 16777216 && Nat.beq z.cells.length s) with
          | false=>rfl
          | true =>
            simp only [cond_true]
            cases fillA (arrPlaces s 0 len) (rep z.cells len) (parts.toList.map fun p=>(p.1,ρ p.2)) <;> rfl
  · rename_i t l m
    simp only [aEff,freshA]
    cases P.underlying t with
    | none=>rfl
    | some d =>
      cases d <;> first | rfl | skip
      rename_i e
      simp only
      cases idx? (ρ l) with
      | none=>rfl
      | some l =>
        cases idx? (ρ m) with
        | none=>rfl
        | some m =>
          cases size? P e with
          | none=>rfl
          | some s =>
            cases bytes? P e with
            | none=>rfl
            | some b =>
              cases zero? P e with
              | none=>rfl
              | some z =>
                simp only
                cases (Nat.ble l m && Nat.ble m appendMax && Nat.ble b appendMax && Nat.beq z.cells.length s) <;> rfl

theorem fresh_run {ρ:Operand→AV}{e:Operand→Value}{o:Oper}{el:Nat}{cs:List AV}{sl:Option (Nat × Nat)}{w:World}(hd:freshA P ρ o.op=some (el,cs,sl))(hr:∀ x∈o.op.operands,conc σ η (ρ x)=some (e x)) :
    ∃ (C:Array Value) (vs:List Value),concs σ η cs=some vs∧allOne vs=true∧C.toList=vs∧(execOp e o).run P w = .ok (.value (mkU w.heap.size sl)) { w with heap:=w.heap.push (.cells C el) }:=by
  have val:∀ {s:Sem Value} {u:Value} {w':World},s.run P w = .ok u w'→(do pure (.value (← s)):Sem Next).run P w = .ok (.value u) w':=by
    intro s u w' hs
    rw [Sem.run_bind,hs];rfl
  unfold freshA at hd
  unfold execOp
  split at hd
  · rename_i el' hop
    rw [hop] at hr ⊢
    rw [Option.map_eq_some_iff] at hd
    obtain ⟨z,hz,hn⟩:=hd
    cases hn
    obtain ⟨Z,z1,z2,z3⟩:=run_zero? hz
    obtain ⟨c1,c2⟩:=cells_ok (z1 σ η) z2
    exact ⟨_,_,c1,c2,rfl,val (by simp only [Instr.alloc,Sem.run_bind,z3,Result.andThen_ok,newVar,newRow,run_newObj,Sem.run_pure];rfl)⟩
  · rename_i el' x hop
    rw [hop] at hr ⊢
    have hx:=hr x (by simp [Op.operands])
    cases hl:(ρ x).laid with
    | false=>simp [hl] at hd
    | true =>
      simp only [hl,cond_true,Option.some.injEq,Prod.mk.injEq] at hd
      obtain ⟨rfl,rfl,rfl⟩:=hd
      obtain ⟨c1,c2⟩:=cells_ok hx hl
      exact ⟨_,_,c1,c2,rfl,val (by simp only [Instr.box,Sem.run_bind,Result.andThen_ok,newVar,newRow,run_newObj,Sem.run_pure];rfl)⟩
  · rename_i t len parts hop
    rw [hop] at hr ⊢
    split at hd
    · rename_i el hu
      split at hd
      · rename_i s z hs hz
        cases hb:(Nat.ble (len * s) 16777216 && Nat.beq z.cells.length s) with
        | false=>simp [hb] at hd
        | true =>
          simp only [hb,cond_true,Option.map_eq_some_iff] at hd
          rw [Bool.and_eq_true] at hb
          obtain ⟨cs',hf,hn⟩:=hd
          cases hn
          obtain ⟨Z,z1,z2,z3⟩:=run_zero? hz
          obtain ⟨c1,c2⟩:=cells_ok (z1 σ η) z2
          have hZs:Z.cells.size=s:=by
            have:=concs_length c1
            rw [Nat.eq_of_beq_eq_true hb.2] at this
            simpa using this
          obtain ⟨R0,r1,r2,r3,r4⟩:=rep_ok c1 c2 len
          have hbase:∃ B:Array Value,B.toList=R0∧∀ w,((do
              let zero ← if len * s=0 then pure #[] else do pure (← zeroValue el).cells
              pure ((Array.range (len * s)).map (fun i=>zero[i % zero.size]!)):Sem (Array Value))).run P w = .ok B w:=by
            refine ⟨Builtin.zeroCells Z.cells len,by rw [zeroCells_eq,r3],fun w=>?_⟩
            by_cases hq:len * s=0
            · simp only [hq, if_true, Sem.run_bind, Sem.run_pure, Result.andThen_ok]
              have:Builtin.zeroCells Z.cells len=#[]:=by
                have:=zeroCells_size (Z:=Z.cells) (n:=len)
                rw [hZs,hq] at this
                simpa using this
              rw [this]
              simp
            · simp only [if_neg hq, Sem.run_bind, Sem.run_pure, Result.andThen_ok, z3 w]
              simp only [Builtin.zeroCells,hZs]
          obtain ⟨B,hB,hBrun⟩:=hbase
          obtain ⟨R,q1,q2,q3,q4⟩:=fillA_ok (σ:=σ) (η:=η) (place:=fun i=>some (i * s,s)) (ps:=(parts.map fun p=>(p.1,e p.2)).toList) (C:=B) (by
            intro i x hx;rw [arrPlaces_get] at hx;split at hx <;> simp at hx;rw [← hx]) hf (by
              rw [Array.toList_map]
              exact partsR_map fun x hx=>hr x.2 (by simp [Op.operands];exact ⟨x.1,by simpa using hx⟩)) (by rw [hB];exact r1) (by rw [hB];exact r2)
          have h24:¬ (len * s > 2 ^ 24):=by have:=Nat.le_of_ble_eq_true hb.1;omega
          refine ⟨_,_,q2,q3,rfl,val ?_⟩
          have hw:=hBrun w
          simp only at hw
          simp only [Instr.buildSlice,Sem.run_bind,run_underlying hu,Result.andThen_ok,run_sizeOf? hs,if_neg h24]
          by_cases hq:len * s=0
          · simp only [hq, if_true] at hw ⊢
            cases hw
            simp only [q1,Sem.run_bind,newRow,run_newObj,Result.andThen_ok,Sem.run_pure]
            rfl
          · simp only [if_neg hq, Sem.run_bind, z3 w, Sem.run_pure, Result.andThen_ok] at hw ⊢
            cases hw
            simp only [q1,Sem.run_bind,newRow,run_newObj,Result.andThen_ok,Sem.run_pure]
            rfl
      · cases hd
    · cases hd
  · rename_i t l m hop
    rw [hop] at hr ⊢
    split at hd
    · rename_i el hu
      split at hd
      · rename_i l' m' s b z el' em es eb ez
        cases hb:(Nat.ble l' m' && Nat.ble m' appendMax && Nat.ble b appendMax && Nat.beq z.cells.length s) with
        | false=>simp [hb] at hd
        | true =>
          simp only [hb,cond_true,Option.some.injEq,Prod.mk.injEq] at hd
          obtain ⟨rfl,rfl,rfl⟩:=hd
          simp only [Bool.and_eq_true] at hb
          obtain ⟨⟨⟨b1,b2⟩,b3⟩,b4⟩:=hb
          have b1:=Nat.le_of_ble_eq_true b1
          have b2:=Nat.le_of_ble_eq_true b2
          have b3:=Nat.le_of_ble_eq_true b3
          obtain ⟨kl,hlv⟩:=idx?_ok el' (hr l (by simp [Op.operands]))
          obtain ⟨km,hmv⟩:=idx?_ok em (hr m (by simp [Op.operands]))
          obtain ⟨Z,z1,z2,z3⟩:=run_zero? ez
          obtain ⟨c1,c2⟩:=cells_ok (z1 σ η) z2
          have hZs:Z.cells.size=s:=by
            have:=concs_length c1
            rw [Nat.eq_of_beq_eq_true b4] at this
            simpa using this
          obtain ⟨R0,r1,r2,r3,r4⟩:=rep_ok c1 c2 m'
          simp only [bytes?,Option.map_eq_some_iff] at eb
          obtain ⟨i,hi,rfl⟩:=eb
          have hinfo:(typeInfo el).run P w = .ok i w:=by simp [typeInfo,hi]
          refine ⟨Builtin.zeroCells Z.cells m',_,r1,r2,(by rw [zeroCells_eq,r3]),val ?_⟩
          have w1:=wrap_small (n:=l') (by omega)
          have w2:=wrap_small (n:=m') b2
          have hmul:(i.bytes:Int) * (m':Int)≤2 ^ 48:=by
            unfold appendMax at b2 b3
            have:i.bytes * m'≤1000000 * 1000000:=Nat.mul_le_mul b3 b2
            have h2:((i.bytes * m':Nat):Int)≤((1000000 * 1000000:Nat):Int):=Int.ofNat_le.2 this
            rw [Int.natCast_mul] at h2
            omega
          have cnd:((decide ((m':Int)<0) || decide ((i.bytes:Int) * (m':Int) > 2 ^ 48)) || decide ((l':Int)<0) || decide ((l':Int) > (m':Int)))=false:=by
            simp;omega
          simp only [Instr.makeSlice,Sem.run_bind,run_underlying hu,Result.andThen_ok,hlv,hmv,asInt,asIntOf,Sem.run_pure,hinfo,w1,w2,cnd,Bool.false_eq_true,if_false,run_askRoom,run_sizeOf? es,Int.toNat_natCast]
          by_cases hq:m' * s=0
          · have:Builtin.zeroCells Z.cells m'=#[]:=by
              have:=zeroCells_size (Z:=Z.cells) (n:=m')
              rw [hZs,hq] at this
              simpa using this
            simp only [hq,if_true,Sem.run_pure,Result.andThen_ok,Sem.run_bind,newRow,run_newObj,this]
            rw [show Array.range 0=#[] from by simp]
            simp [mkU]
          · simp only [if_neg hq, Sem.run_bind, z3 w, Sem.run_pure, Result.andThen_ok, newRow, run_newObj, Builtin.zeroCells, hZs]
            rfl
      · cases hd
    · cases hd
  · cases hd

theorem mkV_conc {c b sl':Nat}{sl:Option (Nat × Nat)}(hc:σ c=some ⟨b,0,sl'⟩):conc σ η (mkV c sl)=some (mkU b sl):=by
  cases sl with
  | none=>exact conc_ptr.2 ⟨_,hc,by simp [mkU]⟩
  | some x=>exact conc_slice.2 ⟨_,hc,by simp [mkU]⟩

theorem aEff_ok {ρ:Operand→AV}{e:Operand→Value}{o:Oper}{out:Out}{h:Heap}{c:Nat}{w:World}(hd:aEff P ρ h c o.op=some out)(hr:∀ x∈o.op.operands,conc σ η (ρ x)=some (e x))(H:HR P σ η h c w):OutR P η σ h c w (execOp e o) out:=by
  have hd0:=hd
  have fr:∀ op,o.op=op→isFresh o.op=true→aEff P ρ h c o.op=some out→OutR P η σ h c w (execOp e o) out:=by
    intro _ _ hf he
    rw [aEff_fresh hf,Option.bind_eq_some_iff] at he
    obtain ⟨⟨el,cs,sl⟩,h1,h2⟩:=he
    obtain ⟨C,vs,k1,k2,k3,k4⟩:=fresh_run (w:=w) h1 hr
    cases out with
    | enter t as=>unfold newCells fCells at h2;rw [fAVs_eq] at h2;obtain ⟨_,q⟩:=putObj_ok h2;rw [fNat_eq] at q;cases q
    | val v' h' c' =>
      obtain ⟨q1,q2⟩:=newCells_ok (sl:=0) (C:=C) (fr:=(0,0)) (w':={ w with heap:=w.heap.push (.cells C el) }) h2 H k1 k2 (fun i x hx=>by rw [← k3] at hx;simpa using hx) (by rw [← k3];simp) (fun i _ q=>by omega) rfl rfl rfl rfl
      subst q1
      exact ⟨_,_,_,_,mkV_conc (upd_same _ _ _),q2,k4,.inl rfl⟩
  unfold aEff at hd
  unfold execOp
  split at hd
  · -- alloc
    rename_i hop
    exact fr _ hop (by rw [hop];rfl) hd0
  · -- box
    rename_i hop
    exact fr _ hop (by rw [hop];rfl) hd0
  · -- buildSlice
    rename_i hop
    exact fr _ hop (by rw [hop];rfl) hd0
  · -- store
    rename_i t a x hop
    rw [hop] at hr ⊢
    have ha:=hr a (by simp [Op.operands])
    have hx:=hr x (by simp [Op.operands])
    split at hd
    · rename_i n o' s ea es
      rw [ea] at ha
      obtain ⟨l,hl,hv⟩:=conc_ptr.1 ha
      cases hb:(Nat.beq (ρ x).cells.length s && (ρ x).laid) with
      | false=>simp [hb] at hd
      | true =>
        simp only [hb,cond_true] at hd
        rw [Bool.and_eq_true] at hb
        obtain ⟨c1,c2⟩:=cells_ok hx hb.2
        unfold aStore at hd
        rw [fAVs_eq] at hd
        simp only [Option.bind_eq_some_iff] at hd
        obtain ⟨⟨t',cs⟩,hc,cs',hlay,hd⟩:=hd
        unfold gCells at hd
        rw [fSpine_eq] at hd
        obtain ⟨hn,hd⟩:=putObj_ok hd
        cases hd
        obtain ⟨w',hst,wt⟩:=lay_ok H hc hn hl hlay c1 c2
        have hsz:(e x).cells.size=s:=by
          have:=concs_length c1
          rw [Nat.eq_of_beq_eq_true hb.1] at this
          simpa using this
        refine ⟨undef,σ,w',.skip,conc_tup.2 ⟨[],rfl,rfl⟩,wt,?_,.inr ⟨rfl,rfl⟩⟩
        have:¬ ((e x).cells.size≠s):=fun q=>q hsz
        simp only [hv,Instr.storeAt,Instr.sureAddr,storeVar,Sem.run_bind,Sem.run_pure,Result.andThen_ok,run_sizeOf? es,if_neg this,hst]
    · cases hd
  · -- makeMap
    rename_i t r hop
    rw [hop] at hr ⊢
    have fin:∀ {out:Out},(putObj h c (some (.map [] 0)) fun h=>fNat (c+1) fun c'=>some (.val (.map c) h c'))=some out→ValR P η σ h c w (do pure (.map (some (← newObj (.map #[] 0))))) out:=by
      intro out hp
      obtain ⟨hn,hp⟩:=putObj_ok hp
      rw [fNat_eq] at hp
      cases hp
      refine ⟨_,_,_,conc_map.2 ⟨_,upd_same _ _ _,rfl⟩,new_ok (sl:=0) H hn (O:=.map #[] 0) (w':={ w with heap:=w.heap.push (.map #[] 0) }) rfl rfl rfl rfl ⟨#[],by simp,trivial⟩,?_⟩
      simp
    split at hd
    · exact (fin hd).run (by simp [Instr.makeMap])
    · rename_i x
      split at hd
      · rename_i kt et k n hu ex
        have hx:=hr x (by simp [Op.operands])
        rw [ex,conc_int] at hx
        exact (fin hd).run (by simp [Instr.makeMap,run_underlying hu,hx,asInt,asIntOf])
      · cases hd
  · -- makeSlice
    rename_i hop
    exact fr _ hop (by rw [hop];rfl) hd0
  · -- mapUpdate
    rename_i t m k x hop
    rw [hop] at hr ⊢
    split at hd
    · rename_i kt et n hu em
      have hm:=hr m (by simp [Op.operands])
      rw [em] at hm
      obtain ⟨l,hl,hv⟩:=conc_map.1 hm
      cases hk:keyOk P kt (ρ k) with
      | false=>simp [hk] at hd
      | true =>
        simp only [hk,cond_true] at hd
        split at hd
        · rename_i es cl hg
          rw [Option.bind_eq_some_iff] at hd
          obtain ⟨r,hf,hd⟩:=hd
          obtain ⟨h',w',rfl,wt,hrun⟩:=aUpdate_ok H hu hk hg hf hd hl (hr k (by simp [Op.operands])) (hr x (by simp [Op.operands]))
          exact ⟨undef,σ,w',.skip,conc_tup.2 ⟨[],rfl,rfl⟩,wt,by simp only [hv,Sem.run_bind,hrun,Result.andThen_ok,Sem.run_pure],.inr ⟨rfl,rfl⟩⟩
        · cases hd
    · cases hd
  · -- insert
    rename_i t m k x hop
    rw [hop] at hr ⊢
    split at hd
    · rename_i kt et n hu em
      have hm:=hr m (by simp [Op.operands])
      rw [em] at hm
      obtain ⟨l,hl,hv⟩:=conc_map.1 hm
      cases hk:keyOk P kt (ρ k) with
      | false=>simp [hk] at hd
      | true =>
        simp only [hk,cond_true] at hd
        split at hd
        · rename_i es cl hg
          rw [Option.bind_eq_some_iff] at hd
          obtain ⟨r,hf,hd⟩:=hd
          obtain ⟨h',w',rfl,wt,hrun⟩:=aUpdate_ok H hu hk hg hf hd hl (hr k (by simp [Op.operands])) (hr x (by simp [Op.operands]))
          exact ⟨undef,σ,w',.skip,conc_tup.2 ⟨[],rfl,rfl⟩,wt,by simp only [hv,Sem.run_bind,hrun,Result.andThen_ok,Sem.run_pure],.inr ⟨rfl,rfl⟩⟩
        · cases hd
    · cases hd
  · -- mapEntry
    rename_i t m k hop
    rw [hop] at hr ⊢
    split at hd
    · rename_i kt et n hu em
      have hm:=hr m (by simp [Op.operands])
      have ck:=hr k (by simp [Op.operands])
      rw [em] at hm
      obtain ⟨l,hl,hv⟩:=conc_map.1 hm
      cases hk:keyOk P kt (ρ k) with
      | false=>simp [hk] at hd
      | true =>
        simp only [hk,cond_true] at hd
        split at hd
        · rename_i es cl hg
          rw [Option.bind_eq_some_iff] at hd
          obtain ⟨r,hf,hd⟩:=hd
          obtain ⟨ms,m1,m2⟩:=H.mapAt hg hl
          obtain ⟨c1,d,hdd,fk⟩:=keyOk_ok hk ck
          have c1':(Instr.checkKey false 10000 kt (e k)).run P w = .ok () w:=c1 false 9999 w
          rcases fk es ms.toList 0 r hf m2 with ⟨rfl,e2⟩ | ⟨j,v,b,vv,rfl,e2,e3,k',kv',en,e4,e5,e6,e7,e8,e9,_⟩
          · simp only [Option.bind_eq_some_iff] at hd
            obtain ⟨z,hz,hd⟩:=hd
            obtain ⟨Z,z1,z2,z3⟩:=run_zero? hz
            obtain ⟨hn,hd⟩:=putMap_ok hd
            cases hd
            refine ⟨_,σ,_,_,conc_tup.2 ⟨_,concs_cons.2 ⟨_,_,z1 σ η,concs_cons.2 ⟨_,_,conc_int.2 rfl,rfl,rfl⟩,rfl⟩,rfl⟩,map_ok H hn hg hl m1 (ms':=ms.push { key:=e k,val:=Z,born:=cl }) (by simpa using m2.push ck (z1 σ η)),?_,.inl rfl⟩
            simp only [hv,Instr.mapEntry,Sem.run_bind,run_underlying hu,Result.andThen_ok,run_getMap m1,c1',run_findKey hdd e2,z3,run_setMap m1,Sem.run_pure,goInt]
            rfl
          · simp only [Nat.zero_add] at hd e3
            obtain ⟨hn,hd⟩:=putMap_ok hd
            cases hd
            have e5':ms[j]? = some en:=by simpa using e5
            refine ⟨_,σ,_,_,conc_tup.2 ⟨_,concs_cons.2 ⟨_,_,e2,concs_cons.2 ⟨_,_,conc_int.2 rfl,rfl,rfl⟩,rfl⟩,rfl⟩,map_ok H hn hg hl m1 (ms':=ms.modify j fun x=>{ x with key:=e k }) (by rw [Array.toList_modify];exact m2.setKey j ck e5 (by rw [e7];exact e2)),?_,.inl rfl⟩
            simp only [hv,Instr.mapEntry,Sem.run_bind,run_underlying hu,Result.andThen_ok,run_getMap m1,c1',run_findKey hdd e3,e5',Option.map_some,Option.getD_some,e9,stays (keyOk_kind hk ck),run_setMap m1,Sem.run_pure,goInt,e8]
            rfl
        · cases hd
    · cases hd
  · -- convert: a text as bytes
    rename_i s d x hop
    rw [hop] at hr ⊢
    have hx:=hr x (by simp [Op.operands])
    split at hd
    · rename_i el txt hs hdd ex
      rw [ex] at hx
      obtain ⟨hb,hv⟩:=conc_str.1 hx
      split at hd
      · rename_i he
        cases hbe:(bytesElem P el && Nat.ble txt.length bigN) with
        | false=>simp [hbe] at hd
        | true =>
          simp only [hbe,cond_true] at hd
          rw [Bool.and_eq_true] at hbe
          obtain ⟨_,hsz⟩:=bytesElem_ok hbe.1
          have hcell:=cellsOf_of hsz
          obtain ⟨k,hk⟩:∃ k,(Question.appendCap txt.length 0 el).cut (w.tape w.drawn (.appendCap txt.length 0 el))=txt.length+k:=⟨_,rfl⟩
          have hlist:∀ (l:List Nat),allB l=true→concs σ η (l.map fun b=>AV.int .u8 (.ofNat b))=some (l.map fun b=>Value.int .u8 (Int.ofNat b))∧allOne (l.map fun b=>Value.int .u8 (Int.ofNat b))=true:=by
            intro l
            induction l with
            | nil=>intro _;exact ⟨rfl,rfl⟩
            | cons y l ih=>intro hl;obtain ⟨_,h2⟩:=allB_cons.1 hl;obtain ⟨i1,i2⟩:=ih h2;exact ⟨concs_cons.2 ⟨_,_,conc_int.2 rfl,i1,rfl⟩,by simp only [List.map_cons,allOne,i2,Bool.and_true];rfl⟩
          obtain ⟨b1,b2⟩:=hlist txt hb
          cases out with
          | enter f args=>unfold newCells fCells at hd;rw [fAVs_eq] at hd;obtain ⟨_,q⟩:=putObj_ok hd;rw [fNat_eq] at q;cases q
          | val v' h' c' =>
            have hmap:(bs txt).data.map (fun b=>Value.int .u8 b.toNat)=(txt.map fun b=>Value.int .u8 (Int.ofNat b)).toArray:=by
              apply Array.toList_inj.1
              simp only [bs,Array.toList_map,List.map_map]
              apply List.map_congr_left
              intro b hbm
              have:b<256:=by simp only [allB,List.all_eq_true,decide_eq_true_eq] at hb;exact hb b hbm
              simp [Function.comp,u8_toNat this]
            generalize hC:(txt.map fun b=>Value.int .u8 (Int.ofNat b)).toArray++Array.replicate k (Value.int .u8 0)=C at *
            have hCs:C.size=txt.length+k:=by rw [← hC];simp
            obtain ⟨q1,q2⟩:=newCells_ok (sl:=k) (C:=C) (fr:=(C.size,C.size+1)) (w':={ w.drew with heap:=w.heap.push (.cells C el (C.size,C.size+1)) }) hd H b1 b2
              (by
                intro j y hj
                rw [← hC,← Array.getElem?_toList,Array.toList_append,List.getElem?_append_left]
                · exact hj
                · rcases Nat.lt_or_ge j (txt.map fun b => Value.int .u8 (Int.ofNat b)).length with q | q
                  · exact q
                  · rw [List.getElem?_eq_none q] at hj;cases hj)
              (by rw [hcell,hCs];simp) (fun i hi q=>by rw [lim_u8 (by assumption)] at hi;omega) rfl rfl rfl rfl
            subst q1
            refine ⟨_,_,_,_,conc_slice.2 ⟨_,upd_same _ _ _,rfl⟩,q2,?_,.inl rfl⟩
            have hconv:(convert s d (.string (bs txt))).run P w=(Conv.stringToBytes el (bs txt)).run P w:=by
              simp [convert,run_underlying hs,run_underlying hdd,run_underlying he]
            show (do pure (.value (← convert s d (e x))):Sem Next).run P w=_
            rw [hv,Sem.run_bind,hconv,run_stringToBytes (C:=C) (k:=k) (by rw [hmap,hC]) (by rw [bs_size];exact hk)]
            rw [bs_size]
            rfl
      · cases hd
    · cases hd
  · -- a slice expression behind whose end nothing is known
    rename_i t x lo hi hop
    rw [hop] at hr ⊢
    have hx:=hr x (by simp [Op.operands])
    split at hd
    · rename_i el n o' len cap hu ex
      rw [ex] at hx
      obtain ⟨lc,hlc,hv⟩:=conc_slice.1 hx
      cases hle:Nat.ble len cap with
      | false=>simp [hle] at hd
      | true =>
        have hle':=Nat.le_of_ble_eq_true hle
        simp only [hle,Bool.not_true,cond_false,Option.bind_eq_some_iff] at hd
        obtain ⟨⟨l,hh,m⟩,hb,s,hs,hd⟩:=hd
        simp only at hd
        cases hml:Nat.beq m l with
        | false=>simp [hml] at hd
        | true =>
          have:=Nat.eq_of_beq_eq_true hml
          subst this
          simp only [hml,cond_true,fNat_eq,Option.some.injEq] at hd
          subst hd
          obtain ⟨k1,k2,k3,k4,k5⟩:=aBounds_ok (σ:=σ) (η:=η) (P:=P) (s:=lc.slack) (isS:=true) (lo':=lo.map e) (hi':=hi.map e) (mx':=none) hb (optR_map fun y hy=>hr y (by simp [Op.operands] at hy ⊢;simp [hy])) (optR_map fun y hy=>hr y (by simp [Op.operands] at hy ⊢;simp [hy])) (show OptR σ η none none from trivial) (fun _=>hle')
          have hhm:hh=m:=by omega
          subst hhm
          refine ⟨_,_,w,_,conc_slice.2 ⟨_,upd_same σ c ⟨lc.blk,if hh+lc.slack=hh then lc.off+o' else lc.off+o'+hh * s,lc.slack⟩,rfl⟩,name_ok H _,?_,.inl rfl⟩
          have:=k1 w
          simp only [mxm] at this
          simp only [hv,Instr.sliceAt,Sem.run_bind,run_underlying hu,Result.andThen_ok,Instr.slice,if_true,this,run_sizeOf? hs,Sem.run_pure,Option.map_none,Option.map_some,add_plain]
          congr 2
          by_cases hz:lc.slack=0
          · simp [hz]
          · simp [hz]
    · cases hd
  · -- entryStore
    rename_i t m s x hop
    rw [hop] at hr ⊢
    have hm:=hr m (by simp [Op.operands])
    have hs:=hr s (by simp [Op.operands])
    have hx:=hr x (by simp [Op.operands])
    split at hd
    · rename_i n b em eb
      rw [em] at hm
      obtain ⟨l,hl,hv⟩:=conc_map.1 hm
      obtain ⟨kk,hsv⟩:=idx?_ok eb hs
      split at hd
      · rename_i es cl hg
        rw [Option.bind_eq_some_iff] at hd
        obtain ⟨es',hst,hd⟩:=hd
        obtain ⟨hn,hd⟩:=putMap_ok hd
        cases hd
        obtain ⟨ms,m1,m2⟩:=H.mapAt hg hl
        obtain ⟨i,i1,i2⟩:=m2.stamp hst hx
        have hfi:ms.findIdx? (fun e=>(e.born:Int) == Int.ofNat b)=some i:=by
          have q:ms=ms.toList.toArray:=by simp
          rw [q,List.findIdx?_toArray];exact i1
        refine ⟨undef,σ,_,.skip,conc_tup.2 ⟨[],rfl,rfl⟩,map_ok H hn hg hl m1 (ms':=ms.modify i fun y=>{ y with val:=e x }) (by rw [Array.toList_modify];exact i2),?_,.inr ⟨rfl,rfl⟩⟩
        simp only [hv,hsv,Instr.entryStore,Sem.run_bind,run_getMap m1,Result.andThen_ok,asInt,asIntOf,Sem.run_pure,hfi,run_setMap m1]
      · cases hd
    · cases hd
  · -- calls
    rename_i cl hop
    rw [hop] at hr ⊢
    obtain ⟨callee,args,argTypes⟩:=cl
    have args':∀ x∈args,conc σ η (ρ x)=some (e x):=fun x hx=>hr x (by simp [Op.operands,Call.operands,hx])
    have at':∀ i x,args[i]? = some x→conc σ η (ρ x)=some (e x)∧(args.map e)[i]? = some (e x):=fun i x hx=>⟨args' x (Array.mem_of_getElem? hx),by simp [hx]⟩
    have all:∀ {l:List AV},args.toList.map ρ=l→concs σ η l=some (args.map e).toList:=by
      rintro l rfl
      rw [Array.toList_map]
      exact concs_map fun x hx=>args' x (by simpa using hx)
    split at hd
    · -- append
      rename_i hc
      simp only at hc
      subst hc
      split at hd
      · rename_i st s x a0 e1 e2
        exact (aAppend_ok (ty:=o.type) hd H (at' 0 s e1).1 (at' 1 x e2).1 a0 rfl (at' 0 s e1).2 (at' 1 x e2).2).run (by simp [resolve,invoke,builtin])
      · cases hd
    · rename_i hc
      simp only at hc
      subst hc
      split at hd
      · rename_i dt d s a0 e1 e2
        exact (aCopy_ok (ty:=o.type) hd H (at' 0 d e1).1 (at' 1 s e2).1 a0 (at' 0 d e1).2 (at' 1 s e2).2).run (by simp [resolve,invoke,builtin])
      · cases hd
    · -- delete
      rename_i hc
      simp only at hc
      subst hc
      split at hd
      · rename_i t m k a0 e1 e2
        split at hd
        · rename_i kt et n hu em
          obtain ⟨hm,hm2⟩:=at' 0 m e1
          obtain ⟨ck,ck2⟩:=at' 1 k e2
          rw [em] at hm
          obtain ⟨l,hl,hv⟩:=conc_map.1 hm
          cases hk:keyOk P kt (ρ k) with
          | false=>simp [hk] at hd
          | true =>
            simp only [hk,cond_true] at hd
            split at hd
            · rename_i es clk hg
              rw [Option.bind_eq_some_iff] at hd
              obtain ⟨r,hf,hd⟩:=hd
              obtain ⟨ms,m1,m2⟩:=H.mapAt hg hl
              obtain ⟨c1,d,hdd,fk⟩:=keyOk_ok hk ck
              have c1':∀ b,(Instr.checkKey b 10000 kt (e k)).run P w = .ok () w:=fun b=>c1 b 9999 w
              rcases fk es ms.toList 0 r hf m2 with ⟨rfl,e4⟩ | ⟨j,v,b,vv,rfl,_,e4,_⟩
              · simp only [Option.some.injEq] at hd
                subst hd
                have hset:({ w with heap:=w.heap.setIfInBounds l.blk (.map ms clk) }:World).heap=w.heap:=by
                  apply Array.ext_getElem?
                  intro i
                  have hlt:l.blk<w.heap.size:=by
                    rcases Nat.lt_or_ge l.blk w.heap.size with h | h
                    · exact h
                    · rw [Array.getElem?_eq_none h] at m1;cases m1
                  by_cases q:l.blk=i
                  · subst q;rw [Array.getElem?_setIfInBounds_self,if_pos hlt,m1]
                  · simp [Array.getElem?_setIfInBounds_ne q]
                refine ⟨_,σ,_,_,conc_tup.2 ⟨[],rfl,rfl⟩,(Went.refl H).heap hset rfl rfl rfl,?_,.inl rfl⟩
                simp only [resolve,invoke,builtin,Sem.run_bind,Sem.run_pure,Result.andThen_ok,Builtin.delete_,a0,hm2,ck2,hv,run_underlying hu,run_getMap m1,c1',run_findKey hdd e4,run_setMap m1]
              · simp only [Nat.zero_add] at hd e4
                obtain ⟨hn,hd⟩:=putMap_ok hd
                cases hd
                refine ⟨_,σ,_,_,conc_tup.2 ⟨[],rfl,rfl⟩,map_ok H hn hg hl m1 (ms':=ms.eraseIdxIfInBounds j) (by rw [Array.toList_eraseIdxIfInBounds];exact m2.drop j),?_,.inl rfl⟩
                simp only [resolve,invoke,builtin,Sem.run_bind,Sem.run_pure,Result.andThen_ok,Builtin.delete_,a0,hm2,ck2,hv,run_underlying hu,run_getMap m1,c1',run_findKey hdd e4,run_setMap m1]
            · cases hd
        · cases hd
      · cases hd
    · -- unsafe.String
      rename_i hc
      simp only at hc
      subst hc
      split at hd
      · rename_i pt q k a0 el
        obtain ⟨v1,vs,h1,h2,h3⟩:=concs_cons.1 (all el)
        obtain ⟨v2,vs2,h4,h5,rfl⟩:=concs_cons.1 h2
        simp [concs] at h5;subst h5
        rw [conc_nilp] at h1;rw [conc_int] at h4;subst h1 h4
        have ha:args.map e=#[.pointer none,.int k 0]:=Array.toList_inj.1 h3
        cases hd
        refine ⟨_,σ,w,_,conc_str.2 ⟨rfl,rfl⟩,Went.refl H,?_,.inl rfl⟩
        simp only [resolve,invoke,builtin,Sem.run_bind,Sem.run_pure,Result.andThen_ok,ha,run_us_nil a0]
      · rename_i pt n' o' k a0 el
        obtain ⟨v1,vs,h1,h2,h3⟩:=concs_cons.1 (all el)
        obtain ⟨v2,vs2,h4,h5,rfl⟩:=concs_cons.1 h2
        simp [concs] at h5;subst h5
        obtain ⟨l,hl,rfl⟩:=conc_ptr.1 h1
        rw [conc_int] at h4;subst h4
        have ha:args.map e=#[.pointer (some ⟨l.blk,l.off+o',none⟩),.int k 0]:=Array.toList_inj.1 h3
        cases hd
        refine ⟨_,σ,w,_,conc_str.2 ⟨rfl,rfl⟩,Went.refl H,?_,.inl rfl⟩
        simp only [resolve,invoke,builtin,Sem.run_bind,Sem.run_pure,Result.andThen_ok,ha,run_us_zero a0]
      · rename_i pt n' o' k m a0 el
        obtain ⟨v1,vs,h1,h2,h3⟩:=concs_cons.1 (all el)
        obtain ⟨v2,vs2,h4,h5,rfl⟩:=concs_cons.1 h2
        simp [concs] at h5;subst h5
        obtain ⟨l,hl,rfl⟩:=conc_ptr.1 h1
        rw [conc_int] at h4;subst h4
        have ha:args.map e=#[.pointer (some ⟨l.blk,l.off+o',none⟩),.int k (Int.ofNat (m+1))]:=Array.toList_inj.1 h3
        split at hd
        · rename_i u e' cs hpt hc
          cases hb:(Nat.beq u e' && bytesElem P e' && Nat.ble m bigN) with
          | false=>simp [hb] at hd
          | true =>
            simp only [hb,cond_true,Option.bind_eq_some_iff] at hd
            rw [Bool.and_eq_true,Bool.and_eq_true] at hb
            have hmb:=Nat.le_of_ble_eq_true hb.2
            unfold bigN at hmb
            have:=Nat.eq_of_beq_eq_true hb.1.1
            subst this
            obtain ⟨_,hsz⟩:=bytesElem_ok hb.1.2
            obtain ⟨r,hrow,txt,htxt,hd⟩:=hd
            obtain ⟨hn,hd⟩:=putObj_ok hd
            rw [fNats_eq] at hd
            cases hd
            obtain ⟨hlive,C,fr,us,c1,c3,c5,c6⟩:=H.frz hc hl
            obtain ⟨k1,k2,k3⟩:=concs_row c3 hrow
            obtain ⟨hvs,k5⟩:=bytesOf?_ok htxt k1
            have hlen:txt.length=m+1:=by
              have:=congrArg List.length hvs
              rw [concs_length k1,k2] at this
              simpa using this.symm
            have k4:∀ j v,((us.drop o').take (m+1))[j]? = some v→w.cell? ⟨l.blk,l.off+o'+j,none⟩=some v:=by
              intro j v hj
              rw [List.getElem?_take] at hj
              split at hj
              · rw [List.getElem?_drop] at hj
                have:=c5 _ _ hj
                simp only [World.cell?,c1]
                rw [← Nat.add_assoc] at this
                simpa using this
              · cases hj
            have hroom:l.off+o'+(m+1)≤C.size:=by
              have hl0:((us.drop o').take (m+1)).length=m+1:=by rw [concs_length k1,k2]
              have hget:((us.drop o').take (m+1))[m]? = some (((us.drop o').take (m+1))[m]'(by omega)):=List.getElem?_eq_getElem _
              rw [List.getElem?_take,if_pos (by omega),List.getElem?_drop] at hget
              have:=c5 _ _ hget
              rcases Nat.lt_or_ge (l.off+(o'+m)) C.size with q | q
              · omega
              · rw [Array.getElem?_eq_none q] at this;cases this
            have hlt:=lt_of_heap c1
            refine ⟨_,σ,w.freeze ⟨l.blk,l.off+o',none⟩ (m+1),_,conc_str.2 ⟨k5,rfl⟩,put2_ok H hn hl hlive (by simp [World.freeze]) (fun i hi=>?_) (by simp only [World.freeze];split <;> rfl) (by simp only [World.freeze];split <;> rfl) (by simp only [World.freeze];split <;> rfl) ?_,?_,.inl rfl⟩
            · simp only [World.freeze, Nat.add_one_ne_zero, if_false]
              rw [Array.getElem?_modify]
              rw [if_neg (fun q=>hi q.symm)]
            · obtain ⟨lo, hi⟩ := fr
              refine ⟨C,(if lo == hi then (l.off+o',l.off+o'+(m+1)) else (min lo (l.off+o'),max hi (l.off+o'+(m+1)))),us,?_,c3,c5,c6⟩
              simp only [World.freeze,Nat.add_one_ne_zero,if_false]
              rw [Array.getElem?_modify,if_pos rfl,c1]
              rfl
            · have hv := run_variablesAt (P := P) (o := l.off + o') (n := m + 1) c1 hsz (cs := C.size) (by omega) rfl
              have hl2:=run_loadBytes (P:=P) (w:=w) (b:=l.blk) txt (l.off+o') ByteArray.empty k5 (fun j x hj=>k4 j _ (by rw [hvs,List.getElem?_map,hj];rfl))
              rw [hlen] at hl2
              simp only [resolve,invoke,builtin,Sem.run_bind,Sem.run_pure,Result.andThen_ok,ha,run_us_some a0 (by omega) hpt hv hl2]
              congr 3
              simp [bs,ByteArray.empty,ByteArray.emptyWithCapacity]
              rfl
        · cases hd
      · cases hd
    · -- clear
      rename_i hc
      simp only at hc
      subst hc
      split at hd
      · rename_i t x a0 e1
        obtain ⟨hx,hx2⟩:=at' 0 x e1
        split at hd
        · rename_i el hu ex
          rw [ex,conc_nils] at hx
          cases hd
          refine ⟨_,σ,w,_,conc_tup.2 ⟨[],rfl,rfl⟩,Went.refl H,?_,.inl rfl⟩
          simp only [resolve,invoke,builtin,Sem.run_bind,Sem.run_pure,Result.andThen_ok,Builtin.clear_,a0,hx2,hx,run_underlying hu]
        · rename_i el n o' len cap fl hu ex
          rw [ex] at hx
          obtain ⟨l,hl,hv⟩:=conc_slice.1 hx
          split at hd
          · cases hd
            refine ⟨_,σ,w,_,conc_tup.2 ⟨[],rfl,rfl⟩,Went.refl H,?_,.inl rfl⟩
            simp only [resolve,invoke,builtin,Sem.run_bind,Sem.run_pure,Result.andThen_ok,Builtin.clear_,a0,hx2,hv,run_underlying hu]
          · rename_i k
            rw [Option.bind_eq_some_iff] at hd
            obtain ⟨z,hz,hd⟩:=hd
            obtain ⟨Z,z1,z2,z3⟩:=run_zero? hz
            obtain ⟨c1,c2⟩:=cells_ok (z1 σ η) z2
            obtain ⟨R,r1,r2,r3,r4⟩:=rep_ok c1 c2 (k+1)
            unfold aStore at hd
            rw [fAVs_eq] at hd
            simp only [Option.bind_eq_some_iff] at hd
            obtain ⟨⟨t',cs⟩,hc,cs',hlay,hd⟩:=hd
            unfold gCells at hd
            rw [fSpine_eq] at hd
            obtain ⟨hn,hd⟩:=putObj_ok hd
            cases hd
            obtain ⟨w',hst,wt⟩:=lay_ok H hc hn hl hlay r1 r2
            refine ⟨undef,σ,w',_,conc_tup.2 ⟨[],rfl,rfl⟩,wt,?_,.inl rfl⟩
            rw [r3,← zeroCells_eq] at hst
            simp only [resolve,invoke,builtin,Sem.run_bind,Sem.run_pure,Result.andThen_ok,Builtin.clear_,a0,hx2,hv,run_underlying hu,z3 w,hst]
            rfl
        · cases hd
      · cases hd
    · -- a call
      rename_i f hc
      simp only at hc
      subst hc
      have hfv:=hr f (by simp [Op.operands,Call.operands])
      split at hd
      · rename_i g first capt ef
        rw [ef] at hfv
        obtain ⟨x,y,h1,h2,hv⟩:=conc_func.1 hfv
        simp only [Option.some.injEq] at hd
        subst hd
        refine ⟨_,concs_append (concs_append h1 (all rfl)) h2,?_⟩
        simp only [resolve,hv,Deferred.ofValue,Sem.run_bind,Sem.run_pure,Result.andThen_ok,invoke]
        congr 2
        apply Array.toList_inj.1
        simp
      · rename_i n ef
        rw [ef] at hfv
        obtain ⟨l,hl,hv⟩:=conc_yld.1 hfv
        simp only [Option.some.injEq] at hd
        subst hd
        refine ⟨_,all rfl,l,hl,?_⟩
        simp only [resolve,hv,Deferred.ofValue,Sem.run_bind,Sem.run_pure,Result.andThen_ok,invoke]
        congr 2
        apply Array.toList_inj.1
        simp
      · cases hd
    · -- a method
      rename_i r name hc
      simp only at hc
      subst hc
      have hrv:=hr r (by simp [Op.operands,Call.operands])
      have hall:concs σ η (args.toList.map ρ)=some (args.map e).toList:=all rfl
      split at hd
      · rename_i t v er
        rw [er] at hrv
        obtain ⟨x,hx,hv⟩:=conc_iface.1 hrv
        have hrun:∀ {f:Nat} {u:Value},(∀ k,(method (k+1) t x name).run P w = .ok (f,u) w)→∀ avs,avs=u::(args.map e).toList→((do let d ← resolve e { callee:=.invoke r name,args:=args,argTypes:=argTypes } o.type;invoke d.target d.args:Sem Next)).run P w=(callFunc f avs.toArray).run P w:=by
          intro f u hm avs ha
          subst ha
          have e0:(#[Value.iface t x]++args.map e)[0]? = some (.iface t x):=by rw [Array.getElem?_append_left (by exact Nat.zero_lt_one)];rfl
          have e1:(#[Value.iface t x]++args.map e).extract 1 (#[Value.iface t x]++args.map e).size=args.map e:=by
            apply Array.ext'
            have hsz:(#[Value.iface t x]++args.map e).size=args.size+1:=by rw [Array.size_append,Array.size_map,Nat.add_comm];rfl
            rw [hsz]
            simp [List.take_of_length_le]
          simp only [resolve,Sem.run_bind,Sem.run_pure,Result.andThen_ok,hv]
          simp only [invoke,e0,e1,callMethod,Sem.run_bind,run_program,Result.andThen_ok]
          have hpos:0<Made.depth:=by decide
          obtain ⟨k,hk⟩:∃ k,P.types.size+Made.depth=k+1:=⟨P.types.size+Made.depth - 1,by omega⟩
          rw [hk,hm k]
          simp only [Result.andThen_ok]
          congr 2
          apply Array.toList_inj.1
          simp
        split at hd
        · rename_i f hm
          cases hd
          exact ⟨_,concs_cons.2 ⟨_,_,hx,hall,rfl⟩,hrun (fun k=>(methA_ok hm k).1 rfl x w) _ rfl⟩
        · rename_i f el hm
          split at hd
          · rename_i n o'
            obtain ⟨l,hl,rfl⟩:=conc_ptr.1 hx
            simp only [Option.bind_eq_some_iff] at hd
            obtain ⟨⟨t',cs⟩,hc,u,hu,hd⟩:=hd
            cases hd
            obtain ⟨uv',u1,u2⟩:=load_ok H hc hl hu
            exact ⟨_,concs_cons.2 ⟨_,_,u1,hall,rfl⟩,hrun (fun k=>(methA_ok hm k).2 el rfl _ _ w u2) _ rfl⟩
          · cases hd
        · cases hd
      · cases hd
    · cases hd
  · cases hd
end
end Go.Eng
