/- A part of the proof. -/
import Derived.CallsIn
import Derived.OrdersIn
import Derived.RangeFuncLeaves
import Derived.Test.YthknocapablpaaaGreatDoorAi15
namespace Go.Eng
/- An evaluator of closed runs: frames, and operations one by one. -/
section
variable {σ σ':Sig}{η:Env}{P:Program}

mutual
theorem avEq_eq:∀ {a b:AV},avEq a b=true→a=b
  | .int k a, b, h => by
    cases b <;> simp only [avEq,Bool.and_eq_true,Bool.false_eq_true] at h
    rename_i k' b
    obtain ⟨h1,h2⟩:=h
    rw [ikN_inj] at h1;rw [iEq_iff] at h2
    rw [h1,show a=b by simpa using h2]
  | .bool a, b, h => by
    cases b <;> simp only [avEq,Bool.false_eq_true] at h
    rw [show a=_ by simpa using h]
  | .str a, b, h => by
    cases b <;> simp only [avEq,Bool.false_eq_true] at h
    rw [nsEq_eq h]
  | .nilp,b,h=>by cases b <;> simp only [avEq,Bool.false_eq_true] at h;rfl
  | .ptr a b, c, h => by
    cases c <;> simp only [avEq,Bool.and_eq_true,Bool.false_eq_true] at h
    rw [Nat.eq_of_beq_eq_true h.1,Nat.eq_of_beq_eq_true h.2]
  | .nils,b,h=>by cases b <;> simp only [avEq,Bool.false_eq_true] at h;rfl
  | .slice a b c d e, x, h => by
    cases x <;> simp only [avEq,Bool.and_eq_true,Bool.false_eq_true] at h
    obtain ⟨⟨⟨⟨h1,h2⟩,h3⟩,h4⟩,h5⟩:=h
    rw [Nat.eq_of_beq_eq_true h1,Nat.eq_of_beq_eq_true h2,Nat.eq_of_beq_eq_true h3,Nat.eq_of_beq_eq_true h4,show e=_ by simpa using h5]
  | .nilm,b,h=>by cases b <;> simp only [avEq,Bool.false_eq_true] at h;rfl
  | .map a, b, h => by
    cases b <;> simp only [avEq,Bool.false_eq_true] at h
    rw [Nat.eq_of_beq_eq_true h]
  | .func f a b, x, h => by
    cases x <;> simp only [avEq,Bool.and_eq_true,Bool.false_eq_true] at h
    rw [Nat.eq_of_beq_eq_true h.1.1,avsEq_eq h.1.2,avsEq_eq h.2]
  | .nilf,b,h=>by cases b <;> simp only [avEq,Bool.false_eq_true] at h;rfl
  | .iface t v, x, h => by
    cases x <;> simp only [avEq,Bool.and_eq_true,Bool.false_eq_true] at h
    rw [Nat.eq_of_beq_eq_true h.1,avEq_eq h.2]
  | .nili,b,h=>by cases b <;> simp only [avEq,Bool.false_eq_true] at h;rfl
  | .agg a, x, h => by
    cases x <;> simp only [avEq,Bool.false_eq_true] at h
    rw [avsEq_eq h]
  | .tup a, x, h => by
    cases x <;> simp only [avEq,Bool.false_eq_true] at h
    rw [avsEq_eq h]
  | .sym a, b, h => by
    cases b <;> simp only [avEq,Bool.false_eq_true] at h
    rw [Nat.eq_of_beq_eq_true h]
  | .yld a, b, h => by
    cases b <;> simp only [avEq,Bool.false_eq_true] at h
    rw [Nat.eq_of_beq_eq_true h]
theorem avsEq_eq:∀ {a b:List AV},avsEq a b=true→a=b
  | [],[],_=>rfl
  | [],_::_,h=>by simp [avsEq] at h
  | _::_,[],h=>by simp [avsEq] at h
  | x :: a, y :: b, h => by
    simp only [avsEq,Bool.and_eq_true] at h
    rw [avEq_eq h.1,avsEq_eq h.2]
theorem nsEq_eq:∀ {a b:List Nat},nsEq a b=true→a=b
  | [],[],_=>rfl
  | [],_::_,h=>by simp [nsEq] at h
  | _::_,[],h=>by simp [nsEq] at h
  | x :: a, y :: b, h => by
    simp only [nsEq] at h
    cases e:Nat.beq x y with
    | false=>simp [e] at h
    | true=>simp only [e,cond_true] at h;rw [Nat.eq_of_beq_eq_true e,nsEq_eq h]
end

/-- A frame's temporaries. -/
structure TR (σ:Sig) (η:Env) (nt:Nat) (tm:Tmps) (ts:Array Value):Prop where
  size:ts.size=nt
  val:∀ t,conc σ η (evO tm (.tmp t))=some (ts.getD t undef)

theorem TR.ext {nt:Nat}{tm:Tmps}{ts:Array Value}(h:TR σ η nt tm ts)(hx:Ext σ σ'):TR σ' η nt tm ts:=⟨h.size,fun t=>conc_ext hx (h.val t)⟩

/-- An operand, by what the temporaries are. -/
theorem ev_ok {tm:Tmps}{a:Act}{x:Operand}(hg:∀ g,g<P.globals.size→∃ s,σ g=some ⟨g,0,s⟩)(ho:okO P x=true)(ht:∀ t,x = .tmp t→conc σ η (evO tm (.tmp t))=some (a.tmps.getD t undef)):conc σ η (evO tm x)=some (a.eval x):=by
  cases x with
  | tmp t=>exact ht t rfl
  | const v =>
    simp only [okO] at ho
    cases e:ofV v with
    | none=>simp [e] at ho
    | some b=>simp only [evO_const,e];exact ofV_ok σ η e
  | global g =>
    simp only [okO] at ho
    obtain ⟨s,hs⟩:=hg g (Nat.le_of_ble_eq_true ho)
    exact conc_ptr.2 ⟨_,hs,rfl⟩
  | func f=>exact conc_func.2 ⟨[],[],rfl,rfl,rfl⟩

theorem okOp_ok {o:Op}(h:okOp P o=true):∀ x∈o.operands,okO P x=true:=by
  intro x hx
  simp only [okOp,List.all_eq_true] at h
  exact h x (by simpa using hx)

theorem getD_put {a:Act}{d t:Nat}{u:Value}(hd:d<a.tmps.size):(a.put (some d) u).tmps.getD t undef=if t=d then u else a.tmps.getD t undef:=by
  simp only [Act.put,Array.getD_eq_getD_getElem?]
  by_cases e:t=d
  · subst e;rw [Array.getElem?_setIfInBounds_self,if_pos hd,if_pos rfl];rfl
  · rw [Array.getElem?_setIfInBounds_ne (fun q=>e q.symm),if_neg e]

theorem evO_set {tm:Tmps}{d t:Nat}{v:AV}(hd:d≤bigN):evO (tm.set deep d (some v)) (.tmp t)=if t=d then v else evO tm (.tmp t):=by
  simp only [evO_tmp,get_put hd]
  by_cases e:t=d
  · rw [if_pos e,if_pos e]
  · rw [if_neg e,if_neg e]

/-- A temporary gets its value. -/
theorem putT_ok {nt:Nat}{tm:Tmps}{dst:Option Tmp}{v:AV}{k:Tmps→Option Res}{r:Res}(h:putT nt tm dst v k=some r):∃ tm',k tm'=some r∧((dst=none∧tm'=tm)∨∃ d,dst=some d∧d<nt∧tm'=tm.set deep d (some v)):=by
  unfold putT at h
  split at h
  · exact ⟨tm,h,.inl ⟨rfl,rfl⟩⟩
  · rename_i d
    cases e:Nat.ble (d+1) nt with
    | false=>simp [e] at h
    | true=>simp only [e,cond_true,setK_eq] at h;exact ⟨_,h,.inr ⟨d,rfl,Nat.le_of_ble_eq_true e,rfl⟩⟩

theorem TR.put {nt:Nat}{tm tm':Tmps}{a:Act}{dst:Option Tmp}{v:AV}{u:Value}(h:TR σ η nt tm a.tmps)(hn:nt≤bigN)(hv:conc σ η v=some u)(e:(dst=none∧tm'=tm)∨∃ d,dst=some d∧d<nt∧tm'=tm.set deep d (some v)):TR σ η nt tm' (a.put dst u).tmps:=by
  rcases e with ⟨rfl,rfl⟩ | ⟨d,rfl,hd,rfl⟩
  · exact h
  · refine ⟨by simpa [Act.put] using h.size, fun t => ?_⟩
    rw [evO_set (Nat.le_trans (Nat.le_of_lt hd) hn),getD_put (by rw [h.size];exact hd)]
    split
    · exact hv
    · exact h.val t

theorem conc_bool_inv {v:AV}{b:Bool}(h:conc σ η v=some (.bool b)):v = .bool b:=by
  cases v with
  | bool x=>rw [conc_bool] at h;cases h;rfl
  | int _ _=>rw [conc_int] at h;cases h
  | str _=>obtain ⟨_,h⟩:=conc_str.1 h;cases h
  | nilp=>rw [conc_nilp] at h;cases h
  | ptr _ _=>obtain ⟨_,_,h⟩:=conc_ptr.1 h;cases h
  | nils=>rw [conc_nils] at h;cases h
  | slice _ _ _ _ _=>obtain ⟨_,_,h⟩:=conc_slice.1 h;cases h
  | nilm=>rw [conc_nilm] at h;cases h
  | map _=>obtain ⟨_,_,h⟩:=conc_map.1 h;cases h
  | func _ _ _=>obtain ⟨_,_,_,_,h⟩:=conc_func.1 h;cases h
  | nilf=>rw [conc_nilf] at h;cases h
  | iface _ _=>obtain ⟨_,_,h⟩:=conc_iface.1 h;cases h
  | nili=>rw [conc_nili] at h;cases h
  | agg _=>obtain ⟨_,_,_,h⟩:=conc_agg.1 h;cases h
  | tup _=>obtain ⟨_,_,h⟩:=conc_tup.1 h;cases h
  | yld _=>obtain ⟨_,_,h⟩:=conc_yld.1 h;cases h
  | sym i =>
    simp only [conc] at h
    split at h
    · rename_i e;simp only [Option.some.injEq] at h;rw [h] at e;simp [symOk] at e
    · cases h

/-- Whether an operation is done. -/
theorem want_ok {ops:Array Oper}{tm:Tmps}{ts:Array Value}{o:Oper}(hv:∀ j w d,o.guard=some (j,w)→(ops[j]?).bind (·.dst)=some d→conc σ η (evO tm (.tmp d))=some (ts.getD d undef)):wantA ops tm o=Region.wanted o (yielded ops ts):=by
  unfold wantA Region.wanted
  cases hg:o.guard with
  | none=>rfl
  | some jw =>
    obtain ⟨j,want⟩:=jw
    simp only
    unfold yielded
    cases hd:(ops[j]?).bind (·.dst) with
    | none=>rfl
    | some d =>
      have h:=hv j want d hg hd
      simp only [Option.bind_some]
      simp only [evO_tmp] at h
      cases ht:tm.get d with
      | none =>
        rw [ht] at h
        have hu:ts.getD d undef=undef:=by
          obtain ⟨vs,h1,h2⟩:=conc_tup.1 h
          simp [concs] at h1;subst h1;exact h2
        simp only
        cases e:ts[d]? with
        | none=>rfl
        | some x =>
          rw [Array.getD_eq_getD_getElem?,e] at hu
          simp only [Option.getD_some] at hu
          subst hu
          rfl
      | some v =>
        rw [ht] at h
        simp only at h
        cases e:ts[d]? with
        | none =>
          rw [Array.getD_eq_getD_getElem?,e] at h
          simp only [Option.getD_none] at h
          cases v <;> first | rfl | (rw [conc_bool] at h;cases h)
        | some x =>
          rw [Array.getD_eq_getD_getElem?,e] at h
          simp only [Option.getD_some] at h
          cases x with
          | bool b=>rw [conc_bool_inv h];simp only;cases b <;> cases want <;> rfl
          | _=>cases v <;> first | rfl | (rw [conc_bool] at h;cases h)

theorem conc_uv:conc σ η uv=some undef:=conc_tup.2 ⟨[],rfl,rfl⟩

/-- Frames of functions, and of a loop's rounds. -/
def Fr (ro:Option Nat):Fence:={ Fence.wide with round:=ro }
/-- What a call comes to. -/
def Done (P:Program)(η:Env)(σ:Sig)(h:Heap)(c:Nat)(w:World)(v:AV)(h':Heap)(c':Nat):Ending→World→Prop:=fun e w'=>
  ∃ u σ',e = .returned u∧conc σ' η v=some u∧Went P η σ h c w σ' h' c' w'

/-- A function that is called: entered, or answered by a row. -/
def Leads (P:Program)(f:Nat)(args:Array Value)(w:World)(R:Ending→World→Prop):Prop:=
  ((callFunc f args).run P w = .ok (.enter f args) w∧CallsIn Fence.wide 0 P f args w R)∨∃ u w',(callFunc f args).run P w = .ok (.value u) w'∧R (.returned u) w'

def CallOk (P:Program)(η:Env)(call:Caller):Prop:=∀ t args h c v h' c',call t args h c=some (.mk v h' c')→∀ σ w avs,HR P σ η h c w→concs σ η args=some avs →
  match t with
  | .fn f=>Leads P f avs.toArray w (Done P η σ h c w v h' c')
  | .yld n=>∀ l,σ n=some l→∃ f tm a b,(Instr.yield l.blk avs.toArray).run P w = .ok (.round l.blk f tm a b) w∧RoundIn Fence.wide 0 P l.blk f tm a b w (Done P η σ h c w v h' c')

/-- An operation that is wanted: its value, or what it does. -/
theorem op_ok {call:Caller}{o:Oper}{tm:Tmps}{h:Heap}{c nt:Nat}{a:Act}{w:World}{r:Res}{k:Tmps→Heap→Nat→Option Res}{ro:Option Nat}{Q:Exit→Act→World→Prop}{next:Act→World→Prop}(hcall:CallOk P η call)(H:HR P σ η h c w)
    (hval:∀ x∈o.op.operands,conc σ η (evO tm x)=some (a.eval x))
    (hd:(match aVal P (evO tm) h o.op with
      | some v=>fAV v fun v=>putT nt tm o.dst v fun tm=>k tm h c
      | none => match aEff P (evO tm) h c o.op with
        | some (.val v h c)=>fAV v fun v=>putT nt tm o.dst v fun tm=>k tm h c
        | some (.enter t args) => fAVs args fun args => match call t args h c with
          | some (.mk v h c)=>putT nt tm o.dst v fun tm=>k tm h c
          | none=>none
        | none=>none)=some r)
    (hnext:∀ σ' tm' v u h' c' w',Went P η σ h c w σ' h' c' w'→conc σ' η v=some u→((o.dst=none∧tm'=tm)∨∃ d,o.dst=some d∧d<nt∧tm'=tm.set deep d (some v))→k tm' h' c'=some r→next (a.put o.dst u) w'):o.wpIn (Fr ro) 0 P a w next Q:=by
  refine ⟨fun _ _=>trivial,?_⟩
  rw [Oper.semAt_eq _ _ _ (fun c hc=>by rw [hc] at hd;cases hd)]
  split at hd
  · rename_i v hv
    rw [fAV_eq] at hd
    obtain ⟨tm',k1,k2⟩:=putT_ok hd
    have:∃ u,conc σ η v=some u∧(execOp a.eval o).run P w = .ok (.value u) w:=by
      rw [aVal_def] at hv
      split at hv
      · rename_i x hx
        cases hv
        obtain ⟨u,u1,u2⟩:=aPure_ok hx hval
        exact ⟨u,u1,u2 w⟩
      · exact aRead_ok hv hval H
    obtain ⟨u,u1,u2⟩:=this
    rw [u2,Oper.uponIn_value]
    exact hnext σ tm' v u h c w (Went.refl H) u1 k2 k1
  · split at hd
    · rename_i v h1 c1 he
      rw [fAV_eq] at hd
      obtain ⟨tm',k1,k2⟩:=putT_ok hd
      obtain ⟨u,σ',w',nx,u1,u2,u3,u4⟩:=aEff_ok he hval H
      rw [u3]
      rcases u4 with rfl | ⟨rfl,rfl⟩
      · rw [Oper.uponIn_value];exact hnext σ' tm' v u h1 c1 w' u2 u1 k2 k1
      · rw [Oper.uponIn_skip];exact hnext σ' tm' v undef h1 c1 w' u2 u1 k2 k1
    · rename_i t args he
      rw [fAVs_eq] at hd
      obtain ⟨avs,u1,u2⟩:=aEff_ok he hval H
      cases ec:call t args h c with
      | none=>simp [ec] at hd
      | some cr =>
        obtain ⟨v,h1,c1⟩:=cr
        simp only [ec] at hd
        obtain ⟨tm',k1,k2⟩:=putT_ok hd
        have hc:=hcall t args h c v h1 c1 ec σ w avs H u1
        cases t with
        | fn f =>
          simp only at u2 hc
          rw [u2]
          rcases hc with ⟨q1,q2⟩ | ⟨u,w',q1,u',σ',e,q2,q3⟩
          · rw [q1, Oper.uponIn_enter]
            refine ⟨fun q=>(by cases q),CallsIn.mono (F:=Fr ro) q2 ?_⟩
            rintro e w' ⟨u,σ',rfl,q1,q2⟩
            exact hnext σ' tm' v u h1 c1 w' q2 q1 k2 k1
          · cases e
            rw [q1,Oper.uponIn_value]
            exact hnext σ' tm' v u h1 c1 w' q3 q2 k2 k1
        | yld n =>
          simp only at u2 hc
          obtain ⟨l,hl,u2⟩:=u2
          obtain ⟨f,tmp,x,y,q1,q2⟩:=hc l hl
          rw [u2,q1,Oper.uponIn_round]
          refine ⟨fun q=>(by cases q),RoundIn.mono (F:=Fr ro) q2 ?_⟩
          rintro e w' ⟨u,σ',rfl,q1,q2⟩
          exact hnext σ' tm' v u h1 c1 w' q2 q1 k2 k1
    · cases hd

/-- Operations one by one, as they stand; behind them others. -/
theorem doOps_ok {call:Caller}{ops:Array Oper}{nt:Nat}{ro:Option Nat}{Q:Exit→Act→World→Prop}{D:List Deferred}{js:List Nat}(hcall:CallOk P η call)(hn:nt≤bigN):∀ (l more:List Oper)(i:Nat)(tm:Tmps)(h:Heap)(c:Nat)(r:Res)(σ:Sig)(a:Act)(w:World),l++more=ops.toList.drop i→doOps P call ops nt l tm h c=some r→HR P σ η h c w→TR σ η nt tm a.tmps→a.defers=D →
    (∀ σ' tm' h' c' a' w',r = .mk .norm tm' h' c'→Went P η σ h c w σ' h' c' w'→TR σ' η nt tm' a'.tmps→a'.defers=D→wpOpsIn (Fr ro) 0 P ops Q js a' w')→wpOpsIn (Fr ro) 0 P ops Q (List.range' i l.length++js) a w
  | [], more, i, tm, h, c, r, σ, a, w, _, he, H, T, hd, hQ => by
    simp only [doOps,Option.some.injEq] at he
    simp only [List.length_nil,List.range'_zero,List.nil_append]
    exact hQ σ tm h c a w he.symm (Went.refl H) T hd
  | o :: l, more, i, tm, h, c, r, σ, a, w, hl, he, H, T, hd, hQ => by
    simp only [doOps,doOp] at he
    have hoi:ops[i]? = some o:=by
      have:=congrArg (·[0]?) hl
      simp only [List.cons_append,List.getElem?_cons_zero,List.getElem?_drop,Nat.add_zero] at this
      rw [← Array.getElem?_toList];exact this.symm
    have hl':l++more=ops.toList.drop (i+1):=by
      have:=congrArg List.tail hl
      simp only [List.cons_append,List.tail_cons,List.tail_drop] at this
      exact this
    simp only [List.length_cons,List.range'_succ,List.cons_append]
    rw [wpOpsIn_cons]
    unfold wpOpIn
    simp only [hoi]
    rw [← want_ok (tm:=tm) (σ:=σ) (η:=η) (fun _ _ d _ _=>T.val d)]
    have rest:∀ σ' tm' v u h' c' w',Went P η σ h c w σ' h' c' w'→conc σ' η v=some u→((o.dst=none∧tm'=tm)∨∃ d,o.dst=some d∧d<nt∧tm'=tm.set deep d (some v))→doOps P call ops nt l tm' h' c'=some r→wpOpsIn (Fr ro) 0 P ops Q (List.range' (i+1) l.length++js) (a.put o.dst u) w':=by
      intro σ' tm' v u h' c' w' W hv ht hk
      refine doOps_ok hcall hn l more (i+1) tm' h' c' r σ' _ w' hl' hk W.rel ((T.ext W.ext).put hn hv ht) ?_ fun σ2 tm2 h2 c2 a2 w2 e W2=>hQ σ2 tm2 h2 c2 a2 w2 e (W.trans W2)
      cases o.dst <;> exact hd
    cases ew:wantA ops tm o with
    | true =>
      simp only [ew,cond_true] at he
      simp only [if_true]
      cases eo:okOp P o.op with
      | false=>simp [eo] at he
      | true =>
        simp only [eo,cond_true] at he
        exact op_ok hcall H (fun x hx=>ev_ok H.glob (okOp_ok eo x hx) fun t _=>T.val t) he rest
    | false =>
      simp only [ew,cond_false] at he
      simp only [Bool.false_eq_true,if_false]
      obtain ⟨tm',k1,k2⟩:=putT_ok he
      exact ⟨fun _ _=>trivial,rest σ tm' uv undef h c w (Went.refl H) conc_uv k2 k1⟩
end
/- An evaluator of closed runs: regions that draw their order. -/
section
variable {σ σ':Sig}{η:Env}{P:Program}

def pr (o:Oper):List Nat:=preds o o.after.toList

theorem memN_iff {n:Nat}:∀ {l:List Nat},memN n l=true ↔ n∈l
  | []=>by simp [memN]
  | x :: l => by
    simp only [memN,Bool.or_eq_true,memN_iff (l:=l),List.mem_cons]
    constructor
    · rintro (h | h)
      · exact .inl (Nat.eq_of_beq_eq_true h)
      · exact .inr h
    · rintro (rfl | h)
      · exact .inl (Nat.beq_refl n)
      · exact .inr h
theorem subN_iff:∀ {l m:List Nat},subN l m=true ↔ ∀ x∈l,x∈m
  | [],m=>by simp [subN]
  | x::l,m=>by simp [subN,memN_iff,subN_iff (l:=l)]
theorem distinct_iff:∀ {l:List Nat},distinctN l=true ↔ l.Nodup
  | []=>by simp [distinctN]
  | x :: l => by
    simp only [distinctN,Bool.and_eq_true,Bool.not_eq_true',List.nodup_cons,distinct_iff (l:=l)]
    have:memN x l=false ↔ x ∉ l:=by rw [← memN_iff];simp
    rw [this]

theorem mem_number:∀ {l:List Oper}{k i:Nat}{o:Oper},(i,o)∈number k l ↔ ∃ j,i=k+j∧l[j]? = some o
  | [],k,i,o=>by simp [number]
  | x :: l, k, i, o => by
    simp only [number,List.mem_cons,mem_number (l:=l),Prod.mk.injEq]
    constructor
    · rintro (⟨rfl, rfl⟩ | ⟨j, rfl, h⟩)
      · exact ⟨0,rfl,rfl⟩
      · exact ⟨j+1,by omega,by simpa using h⟩
    · rintro ⟨j, rfl, h⟩
      cases j with
      | zero=>simp at h;exact .inl ⟨rfl,h.symm⟩
      | succ j=>exact .inr ⟨j,by omega,by simpa using h⟩
theorem mem_all {ops:Array Oper}{i:Nat}{o:Oper}:(i,o)∈number 0 ops.toList ↔ ops[i]? = some o:=by
  rw [mem_number];simp

/-- The operation whose result a temporary is. -/
def Wr (ops:Array Oper)(t j:Nat):Prop:=∃ o,ops[j]? = some o∧o.dst=some t

theorem dsts_mem:∀ {l:List Oper}{o:Oper}{d:Nat},o∈l→o.dst=some d→d∈dsts l
  | [],_,_,h,_=>by cases h
  | x :: l, o, d, h, hd => by
    simp only [dsts]
    rcases List.mem_cons.1 h with rfl | h
    · rw [hd];simp
    · cases x.dst with
      | none=>exact dsts_mem h hd
      | some y=>exact List.mem_cons_of_mem _ (dsts_mem h hd)
theorem dsts_inj:∀ {l:List Oper}{i j:Nat}{oi oj:Oper}{d:Nat},(dsts l).Nodup→l[i]? = some oi→l[j]? = some oj→oi.dst=some d→oj.dst=some d→i=j
  | [],i,j,_,_,_,_,h,_,_,_=>by simp at h
  | x::l,0,0,_,_,_,_,_,_,_,_=>rfl
  | x :: l, 0, j + 1, oi, oj, d, hn, h1, h2, h3, h4 => by
    simp only [List.getElem?_cons_zero,Option.some.injEq] at h1
    subst h1
    simp only [dsts,h3,List.nodup_cons] at hn
    exact absurd (dsts_mem (List.mem_of_getElem? (by simpa using h2)) h4) hn.1
  | x :: l, i + 1, 0, oi, oj, d, hn, h1, h2, h3, h4 => by
    simp only [List.getElem?_cons_zero,Option.some.injEq] at h2
    subst h2
    simp only [dsts,h4,List.nodup_cons] at hn
    exact absurd (dsts_mem (List.mem_of_getElem? (by simpa using h1)) h3) hn.1
  | x :: l, i + 1, j + 1, oi, oj, d, hn, h1, h2, h3, h4 => by
    have hn':(dsts l).Nodup:=by
      simp only [dsts] at hn
      cases hx:x.dst with
      | none=>rw [hx] at hn;exact hn
      | some y=>rw [hx] at hn;simp only [List.nodup_cons] at hn;exact hn.2
    have:=dsts_inj hn' (i:=i) (j:=j) (by simpa using h1) (by simpa using h2) h3 h4
    omega

theorem writer_some:∀ {l:List (Nat × Oper)}{t j:Nat},writer t l=some j→∃ o,(j,o)∈l∧o.dst=some t
  | [],_,_,h=>by simp [writer] at h
  | (i, o) :: l, t, j, h => by
    simp only [writer] at h
    split at h
    · rename_i d hd
      cases e:Nat.beq d t with
      | true=>simp only [e,cond_true,Option.some.injEq] at h;subst h;exact ⟨o,by simp,by rw [hd,Nat.eq_of_beq_eq_true e]⟩
      | false=>simp only [e,cond_false] at h;obtain ⟨o',h1,h2⟩:=writer_some h;exact ⟨o',by simp [h1],h2⟩
    · obtain ⟨o',h1,h2⟩:=writer_some h;exact ⟨o',by simp [h1],h2⟩
theorem writer_none:∀ {l:List (Nat × Oper)}{t j:Nat}{o:Oper},writer t l=none→(j,o)∈l→o.dst≠some t
  | [],_,_,_,_,hm=>by cases hm
  | (i, x) :: l, t, j, o, h, hm => by
    simp only [writer] at h
    rcases List.mem_cons.1 hm with e | hm
    · cases e
      split at h
      · rename_i d hd
        cases e:Nat.beq d t with
        | true=>simp [e] at h
        | false=>rw [hd];intro q;cases q;simp at e
      · rename_i hd;rw [hd];simp
    · split at h
      · rename_i d hd
        cases e:Nat.beq d t with
        | true=>simp [e] at h
        | false=>simp only [e,cond_false] at h;exact writer_none h hm
      · exact writer_none h hm
theorem opAt_some:∀ {l:List (Nat × Oper)}{j:Nat}{o:Oper},opAt j l=some o→(j,o)∈l
  | [],_,_,h=>by simp [opAt] at h
  | (i, x) :: l, j, o, h => by
    simp only [opAt] at h
    cases e:Nat.beq i j with
    | true=>simp only [e,cond_true,Option.some.injEq] at h;subst h;rw [Nat.eq_of_beq_eq_true e];simp
    | false=>simp only [e,cond_false] at h;exact List.mem_cons_of_mem _ (opAt_some h)

structure OpsR (P:Program) (ops:Array Oper):Prop where
  inj:∀ t i j,Wr ops t i→Wr ops t j→i=j
  opnd:∀ (i:Nat) (o:Oper) (t j:Nat),ops[i]? = some o→.tmp t∈o.op.operands→Wr ops t j→j∈pr o∨(isRead o.op=false∧isEffect P o.op=false∧∃ oj:Oper,ops[j]? = some oj∧i∈pr oj)
  grd:∀ (i:Nat) (o:Oper) (j:Nat) (b:Bool),ops[i]? = some o→o.guard=some (j,b)→j∈pr o

theorem opsOk_mem {all:List (Nat × Oper)}:∀ {l:List (Nat × Oper)},opsOk P all l=true→∀ i o,(i,o)∈l →
    (o.op.operands.toList.all fun x=>match x with
      | .tmp t => match writer t all with
        | some j=>memN j (preds o o.after.toList) || (!isRead o.op && !isEffect P o.op && (match opAt j all with | some oj=>memN i (preds oj oj.after.toList) | none=>false))
        | none=>true
      | _=>true)=true∧(match o.guard with
      | some (j,_)=>memN j (preds o o.after.toList)
      | none=>true)=true
  | [],_,_,_,hm=>by cases hm
  | (i, x) :: l, h, j, o, hm => by
    simp only [opsOk,Bool.and_eq_true] at h
    rcases List.mem_cons.1 hm with e | hm
    · cases e;exact h.1
    · exact opsOk_mem h.2 j o hm

theorem opsR {ops:Array Oper}(h1:distinctN (dsts ops.toList)=true)(h2:opsOk P (number 0 ops.toList) (number 0 ops.toList)=true):OpsR P ops:=by
  have inj:∀ t i j,Wr ops t i→Wr ops t j→i=j:=fun t i j ⟨oi,a1,a2⟩ ⟨oj,b1,b2⟩=>dsts_inj (distinct_iff.1 h1) (by simpa using a1) (by simpa using b1) a2 b2
  refine ⟨inj,fun i o t j hi ht hw=>?_,fun i o j b hi hg=>?_⟩
  · have := (opsOk_mem h2 i o (mem_all.2 hi)).1
    rw [List.all_eq_true] at this
    have hh:=this _ (Array.mem_toList_iff.2 ht)
    simp only at hh
    obtain ⟨oj,w1,w2⟩:=hw
    cases e:writer t (number 0 ops.toList) with
    | none=>exact absurd w2 (writer_none e (mem_all.2 w1))
    | some j' =>
      obtain ⟨o',k1,k2⟩:=writer_some e
      have:j'=j:=inj t j' j ⟨o',mem_all.1 k1,k2⟩ ⟨oj,w1,w2⟩
      subst this
      simp only [e,Bool.or_eq_true,Bool.and_eq_true,Bool.not_eq_true',memN_iff] at hh
      rcases hh with hh | ⟨⟨q1,q2⟩,q3⟩
      · exact .inl hh
      · refine .inr ⟨q1, q2, ?_⟩
        cases eo:opAt j' (number 0 ops.toList) with
        | none=>simp [eo] at q3
        | some ox=>simp only [eo,memN_iff] at q3;exact ⟨ox,mem_all.1 (opAt_some eo),q3⟩
  · have := (opsOk_mem h2 i o (mem_all.2 hi)).2
    simp only [hg,memN_iff] at this
    exact this

/-! ### what an operation comes to hangs on its operands alone, and, but for reads, not on the heap -/
theorem aVal_congr {ρ ρ':Operand→AV}{h:Heap}{op:Op}(hx:∀ x∈op.operands,ρ x=ρ' x):aVal P ρ h op=aVal P ρ' h op:=by
  have pairs:∀ ps:Array (Nat × Operand),(∀ x∈ps.map (·.2),ρ x=ρ' x)→(ps.toList.map fun p=>(p.1,ρ p.2))=(ps.toList.map fun p=>(p.1,ρ' p.2)):=fun ps hp=>
    List.map_congr_left fun p hm=>by rw [hp p.2 (Array.mem_map.2 ⟨p,by simpa using hm,rfl⟩)]
  cases op with
  | call c =>
    obtain ⟨callee,args,ats⟩:=c
    have hargs:args.toList.map ρ=args.toList.map ρ':=List.map_congr_left fun x hm=>hx x (by simp only [Op.operands,Call.operands];simp;exact .inr (by simpa using hm))
    have h0:∀ x,args[0]? = some x→ρ x=ρ' x:=fun x h0=>hx x (by simp only [Op.operands,Call.operands];simp;exact .inr (Array.mem_of_getElem? h0))
    cases callee with
    | builtin b =>
      cases b <;> simp only [aVal_def,aPure,aRead,hargs]
      case len=>
        cases e1:ats[0]? with
        | none=>rfl
        | some t =>
          cases e2:args[0]? with
          | none=>rfl
          | some x=>simp only [h0 x e2]
      case cap=>
        cases e1:ats[0]? with
        | none=>rfl
        | some t =>
          cases e2:args[0]? with
          | none=>rfl
          | some x=>simp only [h0 x e2]
    | value f=>rfl
    | invoke r m=>rfl
  | build t ps =>
    have:=pairs ps (fun x hm=>hx x (by simpa [Op.operands] using hm))
    simp only [aVal_def,aPure,aRead,this]
  | buildSlice t n ps=>rfl
  | makeFunc fn first capt =>
    cases fn <;> simp only [aVal_def,aPure,aRead]
    rw [List.map_congr_left (l:=first.toList) (g:=ρ') fun x hm=>hx x (by simp [Op.operands];exact .inl (by simpa using hm)),List.map_congr_left (l:=capt.toList) (g:=ρ') fun x hm=>hx x (by simp [Op.operands];exact .inr (by simpa using hm))]
  | slice t x lo hi mx =>
    have a1:ρ x=ρ' x:=hx x (by simp [Op.operands])
    have a2:lo.map ρ=lo.map ρ':=by cases lo with | none=>rfl | some y=>simp [hx y (by simp [Op.operands])]
    have a3:hi.map ρ=hi.map ρ':=by cases hi with | none=>rfl | some y=>simp [hx y (by simp [Op.operands])]
    have a4:mx.map ρ=mx.map ρ':=by cases mx with | none=>rfl | some y=>simp [hx y (by simp [Op.operands])]
    simp only [aVal_def,aPure,aRead,a1,a2,a3,a4]
  | pick c a b=>simp only [aVal_def,aPure,aRead,hx c (by simp [Op.operands]),hx a (by simp [Op.operands]),hx b (by simp [Op.operands])]
  | binOp op t x y yt=>simp only [aVal_def,aPure,aRead,hx x (by simp [Op.operands]),hx y (by simp [Op.operands])]
  | indexAddr t x y=>simp only [aVal_def,aPure,aRead,hx x (by simp [Op.operands]),hx y (by simp [Op.operands])]
  | index t x y=>simp only [aVal_def,aPure,aRead,hx x (by simp [Op.operands]),hx y (by simp [Op.operands])]
  | lookup t x y ok=>simp only [aVal_def,aPure,aRead,hx x (by simp [Op.operands]),hx y (by simp [Op.operands])]
  | move x=>simp only [aVal_def,aPure,hx x (by simp [Op.operands])]
  | assign x=>simp only [aVal_def,aPure,hx x (by simp [Op.operands])]
  | nilCheck x=>simp only [aVal_def,aPure,aRead,hx x (by simp [Op.operands])]
  | unOp op t x=>simp only [aVal_def,aPure,aRead,hx x (by simp [Op.operands])]
  | convert s d x=>simp only [aVal_def,aPure,aRead,hx x (by simp [Op.operands])]
  | makeInterface t x=>simp only [aVal_def,aPure,aRead,hx x (by simp [Op.operands])]
  | fieldAddr t x f=>simp only [aVal_def,aPure,aRead,hx x (by simp [Op.operands])]
  | field t x f=>simp only [aVal_def,aPure,aRead,hx x (by simp [Op.operands])]
  | typeAssert x a b ok=>simp only [aVal_def,aPure,aRead,hx x (by simp [Op.operands])]
  | extract t i=>simp only [aVal_def,aPure,aRead,hx t (by simp [Op.operands])]
  | load t x=>simp only [aVal_def,aPure,aRead,hx x (by simp [Op.operands])]
  | _=>rfl

theorem aVal_heap {ρ:Operand→AV}{h h':Heap}{op:Op}(hr:isRead op=false):aVal P ρ h op=aVal P ρ h' op:=by
  have:aRead P ρ h op=aRead P ρ h' op:=by
    cases op <;> first | rfl | (simp [isRead] at hr;done) | skip
    rename_i c
    obtain ⟨callee,args,ats⟩:=c
    cases callee with
    | builtin b=>cases b <;> first | rfl | (simp [isRead] at hr;done)
    | value f=>rfl
    | invoke r m=>rfl
  simp only [aVal_def,this]
end
/- An evaluator of closed runs: whatever order a region draws, it comes to what the plan says. -/
section
variable {σ σ':Sig}{η:Env}{P:Program}

/-- The temporaries as an operation sees them that may be done late. -/
noncomputable def rhoE (ops:Array Oper)(tm0 tm:Tmps)(o:Oper):Operand→AV
  | .tmp t => match writer t (number 0 ops.toList) with
    | some j=>bif memN j (pr o) then evO tm (.tmp t) else evO tm0 (.tmp t)
    | none=>evO tm0 (.tmp t)
  | x=>evO tm x

/-- What has been done ahead of its turn: whenever it is done it comes to what is noted. -/
def Early (P:Program)(ops:Array Oper)(nt:Nat)(tm0 tm:Tmps)(h:Heap)(o:Oper):Prop:=
  isEffect P o.op=false∧(∀ d,o.dst=some d→d<nt) ∧
  (wantA ops tm o=true→okOp P o.op=true∧∃ v,aVal P (rhoE ops tm0 tm o) h o.op=some v∧∀ d,o.dst=some d→evO tm (.tmp d)=v) ∧
  (wantA ops tm o=false→∀ d,o.dst=some d→evO tm (.tmp d)=uv)

def Ord (ops:Array Oper):List Nat→Prop
  | []=>True
  | i::d=>i ∉ d∧(∀ o,ops[i]? = some o→∀ j∈pr o,j∈d)∧Ord ops d

theorem Ord.pre {ops:Array Oper}:∀ {d:List Nat},Ord ops d→∀ i∈d,∀ o,ops[i]? = some o→∀ j∈pr o,j∈d
  | [],_,_,hi,_,_,_,_=>by cases hi
  | x :: d, ⟨_, h2, h3⟩, i, hi, o, ho, j, hj => by
    rcases List.mem_cons.1 hi with rfl | hi
    · exact List.mem_cons_of_mem _ (h2 o ho j hj)
    · exact List.mem_cons_of_mem _ (h3.pre i hi o ho j hj)

/-- What has been done in the draw ahead of the plan: a new block that has no name yet. -/
structure Over (P:Program) (η:Env) (ops:Array Oper) (nt:Nat) (σ:Sig) (a:Act) (w:World) (done:List Nat) (tm:Tmps) (h:Heap) (B0 b:Nat) (o:Oper):Prop where
  frs:isFresh o.op=true
  grd:o.guard=none
  okp:okOp P o.op=true
  pre:∀ j∈pr o,j∈done
  dst:∀ d,o.dst=some d→d<nt
  lo:B0≤b
  nlv:¬ Liv σ h b
  val:∃ el cs sl C vs,freshA P (evO tm) o.op=some (el,cs,sl)∧concs σ η cs=some vs∧allOne vs=true∧C.toList=vs∧w.heap[b]? = some (.cells C el (0,0))∧∀ d,o.dst=some d→a.tmps.getD d undef=mkU b sl

/-- The draw and the plan. E: what the draw has done ahead of the plan; B: the blocks laid by these. -/
structure Sim (P:Program) (η:Env) (ops:Array Oper) (nt:Nat) (D:List Deferred) (B0:Nat) (tm0:Tmps) (E:List Nat) (B:Nat→Nat) (σ:Sig) (ls:Array Bool) (a:Act) (w:World) (done:List Nat) (left had:List (Nat × Oper)) (tm:Tmps) (h:Heap) (c:Nat):Prop where
  sz:ls.size=ops.size
  sub:∀ i,ls.getD i false=true→i∈done∨i∈E
  rel:HR P σ η h c w
  tsz:a.tmps.size=nt
  dfr:a.defers=D
  v1:∀ t,(∀ j,Wr ops t j→j ∉ E∧(j∈done→ls.getD j false=true))→conc σ η (evO tm (.tmp t))=some (a.tmps.getD t undef)
  v2:∀ t j,Wr ops t j→j∈done→ls.getD j false=false→conc σ η (evO tm0 (.tmp t))=some (a.tmps.getD t undef)
  old:∀ t,(∀ j,Wr ops t j→j ∉ done)→evO tm (.tmp t)=evO tm0 (.tmp t)
  down:∀ (i:Nat) (o:Oper),ls.getD i false=true→ops[i]? = some o→∀ j∈pr o,ls.getD j false=true
  ord:Ord ops done
  early:∀ i∈done,ls.getD i false=false→∀ o,ops[i]? = some o→Early P ops nt tm0 tm h o
  lft:∀ (i:Nat) (o:Oper),ops[i]? = some o→i∈done∨(i,o)∈left
  lft2:∀ x∈left,ops[x.1]? = some x.2∧x.1 ∉ done
  hds:∀ i∈done,∀ o,ops[i]? = some o→(i,o)∈had
  rng:∀ i∈done,i<ops.size
  dis:∀ i∈E,i ∉ done∧ls.getD i false=true
  ovr:∀ i∈E,∃ o,ops[i]? = some o∧Over P η ops nt σ a w done tm h B0 (B i) o
  apt:∀ i∈E,∀ j∈E,i≠j→B i≠B j
  low:B0≤w.heap.size

/-- Who writes an operand of an effect is among those ahead of it. -/
theorem OpsR.eff {ops:Array Oper}(R:OpsR P ops){i j t:Nat}{o:Oper}(hi:ops[i]? = some o)(he:isEffect P o.op=true)(ht : .tmp t∈o.op.operands)(hw:Wr ops t j):j∈pr o:=by
  rcases R.opnd i o t j hi ht hw with q | ⟨_,q,_⟩
  · exact q
  · rw [he] at q;cases q

theorem fresh_eff {op:Op}(h:isFresh op=true):isEffect P op=true:=by
  cases op <;> first | rfl | (simp [isFresh] at h;done)

/-- What a fresh operation lays hangs on its operands alone. -/
theorem freshA_congr {ρ ρ':Operand→AV}{op:Op}(hx:∀ x∈op.operands,ρ x=ρ' x):freshA P ρ op=freshA P ρ' op:=by
  cases op <;> first | rfl | skip
  · rename_i e x
    simp only [freshA,hx x (by simp [Op.operands])]
  · rename_i t len ps
    have:(ps.toList.map fun p=>(p.1,ρ p.2))=(ps.toList.map fun p=>(p.1,ρ' p.2)):=
      List.map_congr_left fun p hm=>by rw [hx p.2 (by simp only [Op.operands];simp;exact ⟨p.1,by simpa using hm⟩)]
    simp only [freshA,this]
  · rename_i t l m
    simp only [freshA,hx l (by simp [Op.operands]),hx m (by simp [Op.operands])]

/-- The temporaries that a fresh operation of the draw reads have not turned. -/
theorem Over.keep {ops:Array Oper}{nt:Nat}{a a':Act}{w w':World}{done done':List Nat}{tm tm':Tmps}{h h':Heap}{B0 b i:Nat}{o:Oper}(R:OpsR P ops)(hi:ops[i]? = some o)(V:Over P η ops nt σ a w done tm h B0 b o)(hx:Ext σ σ')(hd:∀ j∈done,j∈done')(ht:∀ t,(∀ j,Wr ops t j→j∈done)→evO tm' (.tmp t)=evO tm (.tmp t))
    (hn:¬ Liv σ' h' b)(hb:w'.heap[b]? = w.heap[b]?)(ha:∀ d,o.dst=some d→a'.tmps.getD d undef=a.tmps.getD d undef):Over P η ops nt σ' a' w' done' tm' h' B0 b o:=by
  obtain ⟨el,cs,sl,C,vs,v1,v2,v3,v4,v5,v6⟩:=V.val
  refine ⟨V.frs,V.grd,V.okp,fun j hj=>hd j (V.pre j hj),V.dst,V.lo,hn,el,cs,sl,C,vs,?_,concs_ext hx v2,v3,v4,hb.trans v5,fun d q=>(ha d q).trans (v6 d q)⟩
  rw [← v1]
  refine freshA_congr fun x hm=>?_
  cases x with
  | tmp t=>exact ht t fun j hj=>V.pre j (R.eff hi (fresh_eff V.frs) hm hj)
  | const v=>rfl
  | global g=>rfl
  | func f=>rfl

theorem pick_ok {done:List Nat}:∀ {l:List (Nat × Oper)}{i:Nat}{o:Oper},pickQuiet P done l=some (i,o)→(i,o)∈l∧isEffect P o.op=false∧∀ j∈pr o,j∈done
  | [],_,_,h=>by simp [pickQuiet] at h
  | (j, x) :: l, i, o, h => by
    simp only [pickQuiet] at h
    cases e:(!isEffect P x.op && subN (preds x x.after.toList) done) with
    | true =>
      simp only [e,cond_true,Option.some.injEq,Prod.mk.injEq] at h
      obtain ⟨rfl,rfl⟩:=h
      rw [Bool.and_eq_true,Bool.not_eq_true',subN_iff] at e
      exact ⟨by simp,e.1,e.2⟩
    | false =>
      simp only [e,cond_false] at h
      obtain ⟨h1,h2⟩:=pick_ok h
      exact ⟨List.mem_cons_of_mem _ h1,h2⟩
theorem ready_mem {done:List Nat}:∀ {l:List (Nat × Oper)}{i:Nat}{o:Oper},(i,o)∈readyOnes done l ↔ (i,o)∈l∧∀ j∈pr o,j∈done
  | [],i,o=>by simp [readyOnes]
  | (j, x) :: l, i, o => by
    simp only [readyOnes]
    cases e:subN (preds x x.after.toList) done with
    | true =>
      rw [subN_iff] at e
      simp only [cond_true,List.mem_cons,ready_mem (l:=l)]
      constructor
      · rintro (h | ⟨h1, h2⟩)
        · cases h;exact ⟨.inl rfl,e⟩
        · exact ⟨.inr h1,h2⟩
      · rintro ⟨h | h, h2⟩
        · exact .inl h
        · exact .inr ⟨h,h2⟩
    | false =>
      simp only [cond_false,List.mem_cons,ready_mem (l:=l)]
      constructor
      · rintro ⟨h1,h2⟩;exact ⟨.inr h1,h2⟩
      · rintro ⟨h | h, h2⟩
        · cases h
          have:subN (preds x x.after.toList) done=true:=subN_iff.2 h2
          rw [e] at this;cases this
        · exact ⟨h,h2⟩
theorem strike_mem {i:Nat}:∀ {l:List (Nat × Oper)}{x:Nat × Oper},x∈strike i l ↔ x∈l∧x.1≠i
  | [],x=>by simp [strike]
  | (j, o) :: l, x => by
    simp only [strike]
    cases e:Nat.beq i j with
    | true =>
      have:=Nat.eq_of_beq_eq_true e
      subst this
      simp only [cond_true,strike_mem (l:=l),List.mem_cons]
      constructor
      · rintro ⟨h1,h2⟩;exact ⟨.inr h1,h2⟩
      · rintro ⟨h | h, h2⟩
        · subst h;exact absurd rfl h2
        · exact ⟨h,h2⟩
    | false =>
      have hne:j≠i:=fun q=>by subst q;simp at e
      simp only [cond_false,List.mem_cons,strike_mem (l:=l)]
      constructor
      · rintro (h | ⟨h1, h2⟩)
        · subst h;exact ⟨.inl rfl,hne⟩
        · exact ⟨.inr h1,h2⟩
      · rintro ⟨h | h, h2⟩
        · exact .inl h
        · exact .inr ⟨h,h2⟩
theorem watched_mem {ps:List Nat}:∀ {l:List (Nat × Oper)}{i:Nat}{o:Oper},(i,o)∈l→isRead o.op=true→i ∉ ps→o∈watched ps l
  | [],_,_,h,_,_=>by cases h
  | (j, x) :: l, i, o, h, hr, hp => by
    simp only [watched]
    rcases List.mem_cons.1 h with e | h
    · cases e
      have:memN j ps=false:=by
        cases q:memN j ps with
        | true=>exact absurd (memN_iff.1 q) hp
        | false=>rfl
      simp [hr,this]
    · have := watched_mem h hr hp
      cases (isRead x.op && !memN j ps) with
      | true=>exact List.mem_cons_of_mem _ this
      | false=>exact this
theorem still_mem {ops:Array Oper}{tm:Tmps}{h:Heap}:∀ {l:List Oper}{o:Oper},still P ops tm h l=true→o∈l→wantA ops tm o=true→∃ v d,aVal P (evO tm) h o.op=some v∧o.dst=some d∧tm.get d=some v
  | [],_,_,h,_=>by cases h
  | x :: l, o, hs, hm, hw => by
    simp only [still,Bool.and_eq_true] at hs
    rcases List.mem_cons.1 hm with rfl | hm
    · have h1 := hs.1
      simp only [hw,cond_true] at h1
      split at h1
      · rename_i v d e1 e2
        split at h1
        · rename_i u e3
          exact ⟨v,d,e1,e2,by rw [e3,avEq_eq h1]⟩
        · cases h1
      · cases h1
    · exact still_mem hs.2 hm hw

theorem want_same {ops:Array Oper}{tm tm':Tmps}{o:Oper}(h:∀ j b d,o.guard=some (j,b)→(ops[j]?).bind (·.dst)=some d→tm'.get d=tm.get d):wantA ops tm' o=wantA ops tm o:=by
  unfold wantA
  cases hg:o.guard with
  | none=>rfl
  | some jb =>
    obtain ⟨j,b⟩:=jb
    simp only
    cases hd:(ops[j]?).bind (·.dst) with
    | none=>rfl
    | some d=>simp only [h j b d hg hd]

theorem bind_dst {ops:Array Oper}{j d:Nat}(h:(ops[j]?).bind (·.dst)=some d):Wr ops d j:=by
  rw [Option.bind_eq_some_iff] at h
  obtain ⟨o,h1,h2⟩:=h
  exact ⟨o,h1,h2⟩

/-- What is noted stays noted when another operation gets its value. -/
theorem Early.keep {ops:Array Oper}{nt:Nat}{tm0 tm tm':Tmps}{h:Heap}{o oi:Oper}{i k:Nat}(R:OpsR P ops)(E:Early P ops nt tm0 tm h oi)(hi:ops[i]? = some oi)(hk:ops[k]? = some o)(hik:i≠k)(hpre:k ∉ pr oi)(ht:∀ t,o.dst≠some t→tm'.get t=tm.get t):Early P ops nt tm0 tm' h oi:=by
  have ev:∀ t j,Wr ops t j→j≠k→tm'.get t=tm.get t:=fun t j hw hj=>ht t fun q=>hj (R.inj t j k hw ⟨o,hk,q⟩)
  have hw:wantA ops tm' oi=wantA ops tm oi:=want_same fun j b d hg hd=>ev d j (bind_dst hd) fun q=>by subst q;exact hpre (R.grd i oi j b hi hg)
  have hdst:∀ d,oi.dst=some d→evO tm' (.tmp d)=evO tm (.tmp d):=fun d hd=>by simp only [evO_tmp,ev d i ⟨oi,hi,hd⟩ hik]
  have hrho:∀ x∈oi.op.operands,rhoE ops tm0 tm oi x=rhoE ops tm0 tm' oi x:=by
    intro x _
    cases x with
    | tmp t =>
      simp only [rhoE]
      cases e:writer t (number 0 ops.toList) with
      | none=>rfl
      | some j =>
        simp only
        cases em:memN j (pr oi) with
        | false=>rfl
        | true =>
          obtain ⟨oj,j1,j2⟩:=writer_some e
          have hjk:j≠k:=fun q=>by subst q;exact hpre (memN_iff.1 em)
          simp only [cond_true,evO,ev t j ⟨oj,mem_all.1 j1,j2⟩ hjk]
    | const v=>rfl
    | global g=>rfl
    | func f=>rfl
  obtain ⟨e1,e2,e3,e4⟩:=E
  refine ⟨e1,e2,fun q=>?_,fun q d hd=>?_⟩
  · rw [hw] at q
    obtain ⟨q1,v,q2,q3⟩:=e3 q
    exact ⟨q1,v,by rw [← aVal_congr hrho];exact q2,fun d hd=>by rw [hdst d hd];exact q3 d hd⟩
  · rw [hw] at q;rw [hdst d hd];exact e4 q d hd
end
/- An evaluator of closed runs: the steps of the plan, and those of a draw. -/
section
variable {σ σ':Sig}{η:Env}{P:Program}

section
variable {ops:Array Oper}{nt B0:Nat}{D:List Deferred}{E:List Nat}{B:Nat→Nat}{ro:Option Nat}{tm0 tm:Tmps}{ls:Array Bool}{a:Act}{w:World}{done:List Nat}{left had:List (Nat × Oper)}{h:Heap}{c:Nat}

/-- How an operation of the plan sees the temporaries: as one that is done late. -/
theorem Sim.rho (S:Sim P η ops nt D B0 tm0 E B σ ls a w done left had tm h c)(R:OpsR P ops){i:Nat}{o:Oper}(hi:ops[i]? = some o)(hni:i ∉ done)(hpre:∀ j∈pr o,j∈done)(_hq:isEffect P o.op=false){tm':Tmps}(ht:∀ t,o.dst≠some t→tm'.get t=tm.get t) :
    ∀ x∈o.op.operands,evO tm x=rhoE ops tm0 tm' o x:=by
  intro x hx
  cases x with
  | tmp t =>
    simp only [rhoE]
    cases e:writer t (number 0 ops.toList) with
    | none=>exact S.old t fun j ⟨oj,h1,h2⟩=>absurd h2 (writer_none e (mem_all.2 h1))
    | some j =>
      obtain ⟨oj,j1,j2⟩:=writer_some e
      have hw:Wr ops t j:=⟨oj,mem_all.1 j1,j2⟩
      simp only
      cases em:memN j (pr o) with
      | true =>
        simp only [cond_true]
        have hj:=hpre j (memN_iff.1 em)
        have:o.dst≠some t:=fun q=>by
          have:=R.inj t j i hw ⟨o,hi,q⟩
          subst this;exact hni hj
        simp only [evO_tmp,ht t this]
      | false =>
        simp only [cond_false]
        have hnp:j ∉ pr o:=fun q=>by rw [memN_iff.2 q] at em;cases em
        rcases R.opnd i o t j hi hx hw with q | ⟨_,_,oj',q1,q2⟩
        · exact absurd q hnp
        · refine S.old t fun k hk hkd => ?_
          have:=R.inj t k j hk hw
          subst this
          exact hni (S.ord.pre k hkd oj' q1 i q2)
  | const v=>rfl
  | global g=>rfl
  | func f=>rfl

/-- A quiet operation is done ahead. -/
theorem Sim.ahead (S:Sim P η ops nt D B0 tm0 E B σ ls a w done left had tm h c)(R:OpsR P ops)(hn:nt≤bigN){i:Nat}{o:Oper}(hl:(i,o)∈left)(hq:isEffect P o.op=false)(hpre:∀ j∈pr o,j∈done){r:Res}{k:Tmps→Option Res}(hd:doQ P ops nt o tm h k=some r) :
    ∃ tm',k tm'=some r∧Sim P η ops nt D B0 tm0 E B σ ls a w (i::done) (strike i left) ((i,o)::had) tm' h c:=by
  obtain ⟨hi,hni⟩:=S.lft2 _ hl
  simp only at hi hni
  have hiE:i ∉ E:=fun q=>by
    obtain ⟨o',h1,V⟩:=S.ovr i q
    rw [hi] at h1;cases h1
    rw [fresh_eff V.frs] at hq;cases hq
  have hnl:ls.getD i false=false:=by
    cases e:ls.getD i false with
    | true=>exact absurd (S.sub i e) (fun q=>q.elim hni hiE)
    | false=>rfl
  unfold doQ at hd
  have main:∀ (v:AV) (tm':Tmps),((o.dst=none∧tm'=tm)∨∃ d,o.dst=some d∧d<nt∧tm'=tm.set deep d (some v))→((wantA ops tm o=true→okOp P o.op=true∧aVal P (evO tm) h o.op=some v)∧(wantA ops tm o=false→v=uv)) →
      Sim P η ops nt D B0 tm0 E B σ ls a w (i::done) (strike i left) ((i,o)::had) tm' h c:=by
    intro v tm' ht hv
    have hoth:∀ t,o.dst≠some t→tm'.get t=tm.get t:=by
      intro t hne
      rcases ht with ⟨_,rfl⟩ | ⟨d,hd,hlt,rfl⟩
      · rfl
      · rw [get_put (Nat.le_trans (Nat.le_of_lt hlt) hn), if_neg]
        rintro rfl;exact hne hd
    have hmine:∀ d,o.dst=some d→evO tm' (.tmp d)=v∧d<nt:=by
      intro d hd
      rcases ht with ⟨q,_⟩ | ⟨d',hd',hlt,rfl⟩
      · rw [hd] at q;cases q
      · rw [hd] at hd'; cases hd'
        exact ⟨by rw [evO_set (Nat.le_trans (Nat.le_of_lt hlt) hn),if_pos rfl],hlt⟩
    have hev:∀ t,o.dst≠some t→evO tm' (.tmp t)=evO tm (.tmp t):=fun t q=>by simp only [evO_tmp,hoth t q]
    have hwant:wantA ops tm' o=wantA ops tm o:=want_same fun j b d hg hd=>hoth d fun q=>by
      have:=R.inj d j i (bind_dst hd) ⟨o,hi,q⟩
      subst this
      exact hni (hpre j (R.grd j o j b hi hg))
    refine { sz:=S.sz,sub:=fun j hj=>(S.sub j hj).imp (List.mem_cons_of_mem _) id,rel:=S.rel,tsz:=S.tsz,dfr:=S.dfr,v1:=fun t hall=>?_,v2:=fun t j hw hj hjl=>?_,old:=fun t hall=>?_,down:=S.down,ord:=⟨hni,fun o' ho'=>by rw [hi] at ho';cases ho';exact hpre,S.ord⟩,early:=fun j hj hjl oj hoj=>?_,lft:=fun j oj hoj=>?_,lft2:=fun x hx=>?_,hds:=fun j hj oj hoj=>?_,rng:=fun j hj=>?_,dis:=fun j hj=>⟨fun q=>(List.mem_cons.1 q).elim (fun q=>hiE (q ▸ hj)) (S.dis j hj).1,(S.dis j hj).2⟩,ovr:=fun j hj=>?_,apt:=S.apt,low:=S.low }
    · have hne:o.dst≠some t:=fun q=>by
        have:=(hall i ⟨o,hi,q⟩).2 (by simp)
        rw [hnl] at this;cases this
      rw [hev t hne]
      exact S.v1 t fun j hw=>⟨(hall j hw).1,fun hj=>(hall j hw).2 (List.mem_cons_of_mem _ hj)⟩
    · rcases List.mem_cons.1 hj with rfl | hj
      · have hnone:∀ k,Wr ops t k→k ∉ done:=fun k hk hkd=>by
          have:=R.inj t k j hk hw
          subst this;exact hni hkd
        rw [← S.old t hnone]
        exact S.v1 t fun k hk=>⟨by rw [R.inj t k j hk hw];exact hiE,fun hkd=>absurd hkd (hnone k hk)⟩
      · exact S.v2 t j hw hj hjl
    · have hne : o.dst ≠ some t := fun q => hall i ⟨o, hi, q⟩ (by simp)
      rw [hev t hne]
      exact S.old t fun j hw hj=>hall j hw (List.mem_cons_of_mem _ hj)
    · rcases List.mem_cons.1 hj with rfl | hjd
      · rw [hi] at hoj; cases hoj
        refine ⟨hq,fun d hd=>(hmine d hd).2,fun q=>?_,fun q d hd=>?_⟩
        · rw [hwant] at q
          obtain ⟨q1,q2⟩:=hv.1 q
          exact ⟨q1,v,by rw [← aVal_congr (S.rho R hi hni hpre hq hoth)];exact q2,fun d hd=>(hmine d hd).1⟩
        · rw [hwant] at q
          rw [(hmine d hd).1,hv.2 q]
      · have hji : j ≠ i := fun q => hni (q ▸ hjd)
        exact (S.early j hjd hjl oj hoj).keep R hoj hi hji (fun q=>hni (S.ord.pre j hjd oj hoj i q)) hoth
    · rcases S.lft j oj hoj with q | q
      · exact .inl (List.mem_cons_of_mem _ q)
      · by_cases e : j = i
        · exact .inl (by simp [e])
        · exact .inr (strike_mem.2 ⟨q,e⟩)
    · obtain ⟨q1, q2⟩ := strike_mem.1 hx
      obtain ⟨q3,q4⟩:=S.lft2 x q1
      exact ⟨q3,fun q=>(List.mem_cons.1 q).elim q2 q4⟩
    · rcases List.mem_cons.1 hj with rfl | hj
      · rw [hi] at hoj;cases hoj;simp
      · exact List.mem_cons_of_mem _ (S.hds j hj oj hoj)
    · rcases List.mem_cons.1 hj with rfl | hjd
      · rcases Nat.lt_or_ge j ops.size with q | q
        · exact q
        · rw [Array.getElem?_eq_none q] at hi;cases hi
      · exact S.rng j hjd
    · obtain ⟨oj, h1, V⟩ := S.ovr j hj
      exact ⟨oj,h1,V.keep R h1 (Ext.refl _) (fun k hk=>List.mem_cons_of_mem _ hk) (fun t hall=>hev t fun q=>hni (hall i ⟨o,hi,q⟩)) V.nlv rfl fun _ _=>rfl⟩
  cases ew:wantA ops tm o with
  | true =>
    simp only [ew,cond_true] at hd
    cases eo:okOp P o.op with
    | false=>simp [eo] at hd
    | true =>
      simp only [eo,cond_true] at hd
      split at hd
      · rename_i v hv
        rw [fAV_eq] at hd
        obtain ⟨tm',k1,k2⟩:=putT_ok hd
        exact ⟨tm',k1,main v tm' k2 ⟨fun _=>⟨eo,hv⟩,fun q=>by rw [ew] at q;cases q⟩⟩
      · cases hd
  | false =>
    simp only [ew,cond_false] at hd
    obtain ⟨tm',k1,k2⟩:=putT_ok hd
    exact ⟨tm',k1,main uv tm' k2 ⟨fun q=>(by rw [ew] at q;cases q),fun _=>rfl⟩⟩

theorem getD_set {ls:Array Bool}{i j:Nat}(hi:i<ls.size):(ls.setIfInBounds i true).getD j false=if j=i then true else ls.getD j false:=by
  simp only [Array.getD_eq_getD_getElem?]
  by_cases e:j=i
  · subst e;rw [Array.getElem?_setIfInBounds_self,if_pos hi,if_pos rfl];rfl
  · rw [Array.getElem?_setIfInBounds_ne (fun q=>e q.symm),if_neg e]

theorem mem_ready {ls:Array Bool}{i:Nat}:i∈Region.ready .any ops ls ↔ i<ops.size∧ls.getD i true=false∧∃ o,ops[i]? = some o∧∀ j∈pr o,ls.getD j false=true:=by
  have hp:∀ o:Oper,(o.after.all fun e=>!Region.binds .any e || ls.getD e.on false)=true ↔ ∀ j∈pr o,ls.getD j false=true:=by
    intro o
    rw [← Array.all_toList]
    unfold pr
    generalize o.after.toList=l
    induction l with
    | nil=>simp [preds]
    | cons e l ih =>
      simp only [List.all_cons,Bool.and_eq_true,ih,preds]
      have hb:bindsA e=Region.binds .any e:=by unfold bindsA Region.binds;cases e.ground <;> rfl
      rw [← hb]
      cases q:bindsA e with
      | true=>simp
      | false=>simp
  unfold Region.ready
  rw [List.mem_filter,List.mem_range,Bool.and_eq_true,Bool.not_eq_true']
  constructor
  · rintro ⟨h1, h2, h3⟩
    refine ⟨h1,h2,ops[i],Array.getElem?_eq_getElem h1,?_⟩
    rw [Array.getElem?_eq_getElem h1] at h3
    exact (hp _).1 (by simpa using h3)
  · rintro ⟨h1, h2, o, h3, h4⟩
    exact ⟨h1,h2,by rw [h3];simpa using (hp o).2 h4⟩

/-- The temporaries that an operation sees that is ready in the draw. -/
theorem Sim.sees (S:Sim P η ops nt D B0 tm0 E B σ ls a w done left had tm h c)(R:OpsR P ops){o:Oper}(hpre:∀ j∈pr o,ls.getD j false=true)(hdn:∀ j∈pr o,j∈done){d j:Nat}(hj:j∈pr o)(hw:Wr ops d j):conc σ η (evO tm (.tmp d))=some (a.tmps.getD d undef):=
  S.v1 d fun k hk=>by rw [R.inj d k j hk hw];exact ⟨fun q=>(S.dis j q).1 (hdn j hj),fun _=>hpre j hj⟩

/-- An operation is done in the draw that the plan has done: it comes to what is noted. -/
theorem Sim.late (S:Sim P η ops nt D B0 tm0 E B σ ls a w done left had tm h c)(R:OpsR P ops){i:Nat}{o:Oper}{Q:Exit→Act→World→Prop}{K:Act→World→Prop}(hi:ops[i]? = some o)(hil:ls.getD i false=false)(hpre:∀ j∈pr o,ls.getD j false=true)(hid:i∈done)
    (hK:∀ a',Sim P η ops nt D B0 tm0 E B σ (ls.setIfInBounds i true) a' w done left had tm h c→K a' w):wpOpIn (Fr ro) 0 P ops Q i K a w:=by
  obtain ⟨e1,e2,e3,e4⟩:=S.early i hid hil o hi
  have hdn:∀ j∈pr o,j∈done:=S.ord.pre i hid o hi
  have hiE:i ∉ E:=fun q=>(S.dis i q).1 hid
  have hlt:i<ls.size:=by
    rw [S.sz]
    rcases Nat.lt_or_ge i ops.size with q | q
    · exact q
    · rw [Array.getElem?_eq_none q] at hi;cases hi
  -- the state behind it
  have fin:∀ u,(∀ d,o.dst=some d→conc σ η (evO tm (.tmp d))=some u)→Sim P η ops nt D B0 tm0 E B σ (ls.setIfInBounds i true) (a.put o.dst u) w done left had tm h c:=by
    intro u hu
    have hget:∀ t,(a.put o.dst u).tmps.getD t undef=if o.dst=some t then u else a.tmps.getD t undef:=by
      intro t
      cases hd:o.dst with
      | none=>simp [Act.put]
      | some d =>
        rw [getD_put (by rw [S.tsz];exact e2 d hd)]
        by_cases q:t=d
        · subst q;simp
        · rw [if_neg q,if_neg (by simp;exact fun x=>q x.symm)]
    refine { sz:=by simpa using S.sz,sub:=fun j hj=>?_,rel:=S.rel,tsz:=by cases hd:o.dst <;> simp [Act.put,S.tsz],dfr:=by cases hd:o.dst <;> exact S.dfr,v1:=fun t hall=>?_,v2:=fun t j hw hj hjl=>?_,old:=S.old,down:=fun j oj hj hoj k hk=>?_,ord:=S.ord,early:=fun j hj hjl=>?_,lft:=S.lft,lft2:=S.lft2,hds:=S.hds,rng:=S.rng,dis:=fun j hj=>⟨(S.dis j hj).1,by rw [getD_set hlt];split <;> first | rfl | exact (S.dis j hj).2⟩,ovr:=fun j hj=>?_,apt:=S.apt,low:=S.low }
    · rw [getD_set hlt] at hj
      split at hj
      · rename_i q;subst q;exact .inl hid
      · exact S.sub j hj
    · rw [hget]
      split
      · rename_i q;exact hu t q
      · rename_i q
        refine S.v1 t fun j hw=>⟨(hall j hw).1,fun hj=>?_⟩
        have:=(hall j hw).2 hj
        rw [getD_set hlt] at this
        split at this
        · rename_i q2; subst q2
          obtain ⟨o',h1,h2⟩:=hw
          rw [hi] at h1;cases h1
          exact absurd h2 q
        · exact this
    · rw [getD_set hlt] at hjl
      split at hjl
      · cases hjl
      · rename_i q
        rw [hget,if_neg]
        · exact S.v2 t j hw hj hjl
        · intro q2;exact q (R.inj t j i hw ⟨o,hi,q2⟩)
    · rw [getD_set hlt] at hj ⊢
      split at hj
      · rename_i q; subst q
        rw [hi] at hoj;cases hoj
        split
        · rfl
        · exact hpre k hk
      · split
        · rfl
        · exact S.down j oj hj hoj k hk
    · rw [getD_set hlt] at hjl
      split at hjl
      · cases hjl
      · exact S.early j hj hjl
    · obtain ⟨oj, h1, V⟩ := S.ovr j hj
      refine ⟨oj,h1,V.keep R h1 (Ext.refl _) (fun _ q=>q) (fun _ _=>rfl) V.nlv rfl fun d hd=>?_⟩
      rw [hget,if_neg fun q=>hiE (R.inj d i j ⟨o,hi,q⟩ ⟨oj,h1,hd⟩ ▸ hj)]
  unfold wpOpIn
  simp only [hi]
  have hw:wantA ops tm o=Region.wanted o (yielded ops a.tmps):=want_ok (σ:=σ) (η:=η) fun j b d hg hd=>S.sees R hpre hdn (R.grd i o j b hi hg) (bind_dst hd)
  rw [← hw]
  cases ew:wantA ops tm o with
  | true =>
    simp only [if_true]
    obtain ⟨q1,v,q2,q3⟩:=e3 ew
    have opnd:∀ x∈o.op.operands,conc σ η (rhoE ops tm0 tm o x)=some (a.eval x):=by
      intro x hx
      cases x with
      | tmp t =>
        simp only [rhoE]
        cases e:writer t (number 0 ops.toList) with
        | none =>
          have hno:∀ j,¬ Wr ops t j:=fun j ⟨oj,h1,h2⟩=>absurd h2 (writer_none e (mem_all.2 h1))
          simp only
          rw [← S.old t fun j hj=>absurd hj (hno j)]
          exact S.v1 t fun j hj=>absurd hj (hno j)
        | some j =>
          obtain ⟨oj,j1,j2⟩:=writer_some e
          have hwr:Wr ops t j:=⟨oj,mem_all.1 j1,j2⟩
          simp only
          cases em:memN j (pr o) with
          | true=>simp only [cond_true];exact S.sees R hpre hdn (memN_iff.1 em) hwr
          | false =>
            simp only [cond_false]
            have hnp:j ∉ pr o:=fun q=>by rw [memN_iff.2 q] at em;cases em
            rcases R.opnd i o t j hi hx hwr with q | ⟨_,_,oj',p1,p2⟩
            · exact absurd q hnp
            · have hjl:ls.getD j false=false:=by
                cases q:ls.getD j false with
                | false=>rfl
                | true=>have:=S.down j oj' q p1 i p2;rw [hil] at this;cases this
              by_cases hjd:j∈done
              · exact S.v2 t j hwr hjd hjl
              · have hno : ∀ k, Wr ops t k → k ∉ done := fun k hk hkd => hjd (by rw [← R.inj t k j hk hwr]; exact hkd)
                rw [← S.old t hno]
                exact S.v1 t fun k hk=>⟨fun q=>(by
                  rw [R.inj t k j hk hwr] at q
                  rw [(S.dis j q).2] at hjl;cases hjl),fun hkd=>absurd hkd (hno k hk)⟩
      | const v=>exact ev_ok (tm:=tm) S.rel.glob (okOp_ok q1 _ hx) (fun t e=>by cases e)
      | global g=>exact ev_ok (tm:=tm) S.rel.glob (okOp_ok q1 _ hx) (fun t e=>by cases e)
      | func f=>exact ev_ok (tm:=tm) S.rel.glob (okOp_ok q1 _ hx) (fun t e=>by cases e)
    have:∃ u,conc σ η v=some u∧(execOp a.eval o).run P w = .ok (.value u) w:=by
      rw [aVal_def] at q2
      split at q2
      · rename_i x hx
        cases q2
        obtain ⟨u,u1,u2⟩:=aPure_ok hx opnd
        exact ⟨u,u1,u2 w⟩
      · exact aRead_ok q2 opnd S.rel
    obtain ⟨u,u1,u2⟩:=this
    refine ⟨fun _ _=>trivial,?_⟩
    rw [Oper.semAt_eq _ _ _ (fun c hc=>by rw [hc] at q2;cases q2),u2,Oper.uponIn_value]
    exact hK _ (fin u fun d hd=>by rw [q3 d hd];exact u1)
  | false =>
    simp only [Bool.false_eq_true,if_false]
    exact ⟨fun _ _=>trivial,hK _ (fin undef fun d hd=>by rw [e4 ew d hd];exact conc_uv)⟩
end
end
/- An evaluator of closed runs: the plan's effects, and what a draw does ahead of the plan. -/
section
variable {σ σ':Sig}{η:Env}{P:Program}

theorem pick_none {done:List Nat}:∀ {l:List (Nat × Oper)}{i:Nat}{o:Oper},pickQuiet P done l=none→(i,o)∈l→(∀ j∈pr o,j∈done)→isEffect P o.op=true
  | [],_,_,_,h,_=>by cases h
  | (j, x) :: l, i, o, h, hm, hp => by
    simp only [pickQuiet] at h
    cases e:(!isEffect P x.op && subN (preds x x.after.toList) done) with
    | true=>simp [e] at h
    | false =>
      simp only [e,cond_false] at h
      rcases List.mem_cons.1 hm with q | hm
      · cases q
        have:subN (preds x x.after.toList) done=true:=subN_iff.2 hp
        rw [this,Bool.and_true,Bool.not_eq_false'] at e
        exact e
      · exact pick_none h hm hp

theorem anyDull_mem:∀ {l:List (Nat × Oper)}{x:Nat × Oper},anyDull l=some x→x∈l
  | [],_,h=>by simp [anyDull] at h
  | y :: l, x, h => by
    simp only [anyDull] at h
    cases e:isFresh y.2.op with
    | true=>simp only [e,cond_true] at h;exact List.mem_cons_of_mem _ (anyDull_mem h)
    | false=>simp only [e,cond_false,Option.some.injEq] at h;subst h;simp
theorem pickMain_mem {l:List (Nat × Oper)}{x:Nat × Oper}(h:pickMain l=some x):x∈l:=by
  cases l with
  | nil=>cases h
  | cons y l =>
    simp only [pickMain] at h
    cases e:anyDull (y::l) with
    | some z=>simp only [e,Option.some.injEq] at h;subst h;exact anyDull_mem e
    | none=>simp only [e,Option.some.injEq] at h;subst h;simp
theorem restOk_mem {all:List (Nat × Oper)}{m:Nat}:∀ {l:List (Nat × Oper)},restOk all m l=true→∀ i o,(i,o)∈l→i=m∨(isFresh o.op=true∧o.guard=none∧hangs all m i all=true)
  | [],_,_,_,hm=>by cases hm
  | (j, x) :: l, h, i, o, hm => by
    simp only [restOk,Bool.and_eq_true,Bool.or_eq_true] at h
    rcases List.mem_cons.1 hm with e | hm
    · cases e
      rcases h.1 with q | ⟨⟨q1,q2⟩,q3⟩
      · exact .inl (Nat.eq_of_beq_eq_true q)
      · refine .inr ⟨q1, ?_, q3⟩
        unfold noGuard at q2
        split at q2
        · assumption
        · cases q2
    · exact restOk_mem h.2 i o hm
theorem hangs_mem {all:List (Nat × Oper)}{m i:Nat}:∀ {l:List (Nat × Oper)},hangs all m i l=true→∀ j o,(j,o)∈l→i∈pr o→behind all m 4 j=true
  | [],_,_,_,hm,_=>by cases hm
  | (k, x) :: l, h, j, o, hm, hp => by
    simp only [hangs,Bool.and_eq_true] at h
    rcases List.mem_cons.1 hm with e | hm
    · cases e
      have:=h.1
      rw [show memN i (preds x x.after.toList)=true from memN_iff.2 hp,cond_true] at this
      exact this
    · exact hangs_mem h.2 j o hm hp
theorem behindL_mem {f:Nat→Bool}{m:Nat}:∀ {l:List Nat},behindL f m l=true→∃ p∈l,p=m∨f p=true
  | [],h=>by simp [behindL] at h
  | p :: l, h => by
    simp only [behindL,Bool.or_eq_true] at h
    rcases h with (h | h) | h
    · exact ⟨p,by simp,.inl (Nat.eq_of_beq_eq_true h)⟩
    · exact ⟨p,by simp,.inr h⟩
    · obtain ⟨q, h1, h2⟩ := behindL_mem h
      exact ⟨q,by simp [h1],h2⟩
theorem behind_ls {ops:Array Oper}{ls:Array Bool}{m:Nat}(down:∀ (i:Nat)(o:Oper),ls.getD i false=true→ops[i]? = some o→∀ j∈pr o,ls.getD j false=true):∀ (n j:Nat),behind (number 0 ops.toList) m n j=true→(∀ o,ops[j]? = some o→∀ p∈pr o,ls.getD p false=true)→ls.getD m false=true
  | 0,_,h,_=>by simp [behind] at h
  | n + 1, j, h, hp => by
    simp only [behind] at h
    split at h
    · rename_i o ho
      obtain ⟨p,h1,h2⟩:=behindL_mem h
      have hpp:=hp o (mem_all.1 (opAt_some ho)) p h1
      rcases h2 with rfl | h2
      · exact hpp
      · exact behind_ls down n p h2 fun o' ho' q hq=>down p o' hpp ho' q hq
    · cases h

theorem doQ_tm {ops:Array Oper}{nt:Nat}{o:Oper}{tm:Tmps}{h:Heap}{k:Tmps→Option Res}{r:Res}(hn:nt≤bigN)(hd:doQ P ops nt o tm h k=some r):∃ tm',k tm'=some r∧∀ t,o.dst≠some t→tm'.get t=tm.get t:=by
  have main:∀ v,putT nt tm o.dst v k=some r→∃ tm',k tm'=some r∧∀ t,o.dst≠some t→tm'.get t=tm.get t:=by
    intro v hp
    obtain ⟨tm',k1,k2⟩:=putT_ok hp
    refine ⟨tm',k1,fun t hne=>?_⟩
    rcases k2 with ⟨_,rfl⟩ | ⟨d,hd,hlt,rfl⟩
    · rfl
    · rw [get_put (Nat.le_trans (Nat.le_of_lt hlt) hn), if_neg]
      rintro rfl;exact hne hd
  unfold doQ at hd
  cases ew:wantA ops tm o with
  | false=>simp only [ew,cond_false] at hd;exact main _ hd
  | true =>
    simp only [ew,cond_true] at hd
    cases eo:okOp P o.op with
    | false=>simp [eo] at hd
    | true =>
      simp only [eo,cond_true] at hd
      split at hd
      · rw [fAV_eq] at hd;exact main _ hd
      · cases hd
theorem doOp_tm {call:Caller}{ops:Array Oper}{nt:Nat}{o:Oper}{tm:Tmps}{h:Heap}{c:Nat}{k:Tmps→Heap→Nat→Option Res}{r:Res}(hn:nt≤bigN)(hd:doOp P call ops nt o tm h c k=some r):∃ tm' h' c',k tm' h' c'=some r∧∀ t,o.dst≠some t→tm'.get t=tm.get t:=by
  have main:∀ v h' c',putT nt tm o.dst v (fun tm=>k tm h' c')=some r→∃ tm' h' c',k tm' h' c'=some r∧∀ t,o.dst≠some t→tm'.get t=tm.get t:=by
    intro v h' c' hp
    obtain ⟨tm',k1,k2⟩:=putT_ok hp
    refine ⟨tm',h',c',k1,fun t hne=>?_⟩
    rcases k2 with ⟨_,rfl⟩ | ⟨d,hd,hlt,rfl⟩
    · rfl
    · rw [get_put (Nat.le_trans (Nat.le_of_lt hlt) hn), if_neg]
      rintro rfl;exact hne hd
  unfold doOp at hd
  cases ew:wantA ops tm o with
  | false=>simp only [ew,cond_false] at hd;exact main _ _ _ hd
  | true =>
    simp only [ew,cond_true] at hd
    cases eo:okOp P o.op with
    | false=>simp [eo] at hd
    | true =>
      simp only [eo,cond_true] at hd
      split at hd
      · rw [fAV_eq] at hd;exact main _ _ _ hd
      · split at hd
        · rw [fAV_eq] at hd;exact main _ _ _ hd
        · rw [fAVs_eq] at hd
          split at hd
          · exact main _ _ _ hd
          · cases hd
        · cases hd

theorem aVal_fresh {ρ:Operand→AV}{h:Heap}{op:Op}(hf:isFresh op=true):aVal P ρ h op=none:=by
  cases op <;> first | rfl | (simp [isFresh] at hf;done)

/-- A fresh operation that is done: what it lays. -/
theorem doOp_fresh {call:Caller}{ops:Array Oper}{nt:Nat}{o:Oper}{tm:Tmps}{h:Heap}{c:Nat}{k:Tmps→Heap→Nat→Option Res}{r:Res}(hf:isFresh o.op=true)(hg:o.guard=none)(hd:doOp P call ops nt o tm h c k=some r) :
    okOp P o.op=true∧∃ el cs sl tm',freshA P (evO tm) o.op=some (el,cs,sl)∧c≤bigN∧k tm' (h.set deep c (some (.cells el cs))) (c+1)=some r∧((o.dst=none∧tm'=tm)∨∃ d,o.dst=some d∧d<nt∧tm'=tm.set deep d (some (mkV c sl))):=by
  unfold doOp at hd
  have hw:wantA ops tm o=true:=by unfold wantA;rw [hg]
  simp only [hw,cond_true] at hd
  cases eo:okOp P o.op with
  | false=>simp [eo] at hd
  | true =>
    simp only [eo,cond_true,aVal_fresh hf,aEff_fresh hf] at hd
    cases ef:freshA P (evO tm) o.op with
    | none=>simp [ef] at hd
    | some x =>
      obtain ⟨el,cs,sl⟩:=x
      simp only [ef,Option.bind_some] at hd
      cases en:newCells h c el cs (mkV c sl) with
      | none=>simp [en] at hd
      | some q =>
        have en':=en
        unfold newCells fCells at en'
        rw [fAVs_eq] at en'
        obtain ⟨hc,e2⟩:=putObj_ok en'
        rw [fNat_eq] at e2
        cases e2
        simp only [en,fAV_eq] at hd
        obtain ⟨tm',k1,k2⟩:=putT_ok hd
        exact ⟨rfl,el,cs,sl,tm',rfl,hc,k1,k2⟩

/-- A fresh operation that is left comes to something, whenever it is done. -/
theorem plan_fresh {ops:Array Oper}{nt:Nat}{call:Caller}{r:Res}(R:OpsR P ops)(hn:nt≤bigN){i:Nat}{o:Oper}(hi:ops[i]? = some o)(hf:isFresh o.op=true)(hg:o.guard=none):∀ (steps:List Step)(n:Nat)(done:List Nat)(left had:List (Nat × Oper))(tm:Tmps)(h:Heap)(c:Nat),planGo P (number 0 ops.toList) n left done had=some steps→doPlan P call ops nt steps tm h c=some r→(i,o)∈left→(∀ j∈pr o,j∈done)→(∀ x∈left,ops[x.1]? = some x.2∧x.1 ∉ done) →
    okOp P o.op=true∧(∀ d,o.dst=some d→d<nt)∧∃ x,freshA P (evO tm) o.op=some x:=by
  intro steps
  induction steps with
  | nil =>
    intro n done left had tm h c hp hd hl hpre hlf
    exfalso
    cases n with
    | zero=>unfold planGo at hp;split at hp <;> first | (cases hp;done) | (cases hl;done)
    | succ n =>
      unfold planGo at hp
      split at hp
      · cases hl
      · split at hp
        · rw [Option.map_eq_some_iff] at hp
          obtain ⟨_,_,q⟩:=hp;cases q
        · split at hp
          · rename_i i' o' _
            cases hr:restOk (number 0 ops.toList) i' (readyOnes done left) with
            | false=>simp [hr] at hp
            | true =>
              simp only [hr,cond_true,Option.map_eq_some_iff] at hp
              obtain ⟨_,_,q⟩:=hp;cases q
          · cases hp
  | cons st steps ih =>
    intro n done left had tm h c hp hd hl hpre hlf
    -- one step further
    have go:∀ (i':Nat) (o':Oper) (had':List (Nat × Oper)) (n':Nat) (tm':Tmps) (h':Heap) (c':Nat),(i',o')∈left→i'≠i→planGo P (number 0 ops.toList) n' (strike i' left) (i'::done) had'=some steps→doPlan P call ops nt steps tm' h' c'=some r→(∀ t,o'.dst≠some t→tm'.get t=tm.get t) →
        okOp P o.op=true∧(∀ d,o.dst=some d→d<nt)∧∃ x,freshA P (evO tm) o.op=some x:=by
      intro i' o' had' n' tm' h' c' hl' hne hp' hd' ht
      obtain ⟨g1,g2⟩:=hlf _ hl'
      simp only at g1 g2
      obtain ⟨q1,q2,x,q3⟩:=ih n' (i'::done) (strike i' left) had' tm' h' c' hp' hd' (strike_mem.2 ⟨hl,fun q=>hne q.symm⟩) (fun j hj=>List.mem_cons_of_mem _ (hpre j hj)) (fun x hx=>by
        obtain ⟨k1,k2⟩:=strike_mem.1 hx
        obtain ⟨k3,k4⟩:=hlf x k1
        exact ⟨k3,fun q=>(List.mem_cons.1 q).elim k2 k4⟩)
      refine ⟨q1,q2,x,?_⟩
      rw [← q3]
      refine freshA_congr fun y hy=>?_
      cases y with
      | tmp t =>
        have:o'.dst≠some t:=fun q=>g2 (hpre i' (R.eff hi (fresh_eff hf) hy ⟨o',g1,q⟩))
        simp only [evO_tmp,ht t this]
      | const v=>rfl
      | global g=>rfl
      | func f=>rfl
    cases n with
    | zero=>unfold planGo at hp;split at hp <;> cases hp
    | succ n =>
      unfold planGo at hp
      split at hp
      · cases hp
      · split at hp
        · rename_i i' o' hpick
          rw [Option.map_eq_some_iff] at hp
          obtain ⟨l',h1,h2⟩:=hp
          cases h2
          obtain ⟨p1,p2,p3⟩:=pick_ok hpick
          simp only [doPlan] at hd
          obtain ⟨tm',k1,k2⟩:=doQ_tm hn hd
          refine go i' o' _ n tm' h c p1 (fun q=>?_) h1 k1 k2
          subst q
          have:=(hlf _ p1).1
          simp only at this
          rw [hi] at this;cases this
          rw [fresh_eff hf] at p2;cases p2
        · split at hp
          · rename_i i' o' hpick
            cases hr:restOk (number 0 ops.toList) i' (readyOnes done left) with
            | false=>simp [hr] at hp
            | true =>
              simp only [hr,cond_true,Option.map_eq_some_iff] at hp
              obtain ⟨l',h1,h2⟩:=hp
              cases h2
              obtain ⟨p1,p2⟩:=ready_mem.1 (pickMain_mem hpick)
              simp only [doPlan] at hd
              by_cases e:i'=i
              · subst e
                have:=(hlf _ p1).1
                simp only at this
                rw [hi] at this;cases this
                obtain ⟨q1,el,cs,sl,tm',q2,_,_,q3⟩:=doOp_fresh hf hg hd
                refine ⟨q1,fun d hdd=>?_,_,q2⟩
                rcases q3 with ⟨q,_⟩ | ⟨d',q,hlt,_⟩
                · rw [hdd] at q;cases q
                · rw [hdd] at q;cases q;exact hlt
              · obtain ⟨tm', h', c', k1, k2⟩ := doOp_tm hn hd
                cases hs:still P ops tm' h' (watched (preds o' o'.after.toList) had) with
                | false=>simp [hs] at k1
                | true =>
                  simp only [hs,cond_true] at k1
                  exact go i' o' _ n tm' h' c' p1 e h1 k1 k2
          · cases hp

/-- A block that lies there, and that no name is for, gets a name. -/
theorem adopt_ok {h:Heap}{c:Nat}{w:World}{l:Loc}{o:AObj}(H:HR P σ η h c w)(hc:c≤bigN)(hb:¬ Liv σ h l.blk)(ho:ObjR P (upd σ c l) η w l o):HR P (upd σ c l) η (h.set deep c (some o)) (c+1) w:=by
  have hx:=ext_upd (l:=l) (H.new c (Nat.le_refl _))
  have old:∀ n,(h.get n).isSome=true→n≠c:=by
    intro n hn q
    subst q
    cases e:h.get n with
    | none=>rw [e] at hn;cases hn
    | some o=>obtain ⟨l',hl',_⟩:=H.obj n o e;rw [H.new n (Nat.le_refl _)] at hl';cases hl'
  refine ⟨fun m q hm=>?_,fun a b x y ha hb' hxa hxb e=>?_,fun n hn=>?_,fun g hg=>?_⟩
  · rw [get_put hc] at hm
    split at hm
    · rename_i e;subst e;cases hm;exact ⟨_,upd_same _ _ _,ho⟩
    · obtain ⟨x, hx1, ob⟩ := H.obj m q hm
      exact ⟨x,hx m x hx1,ob.ext hx⟩
  · rw [get_put hc] at ha hb'
    by_cases ea:a=c <;> by_cases eb:b=c
    · rw [ea,eb]
    · rw [if_neg eb] at hb'
      rw [ea,upd_same] at hxa;rw [upd_other eb] at hxb
      cases hxa
      exact absurd ⟨b,y,hb',hxb,e.symm⟩ hb
    · rw [if_neg ea] at ha
      rw [eb,upd_same] at hxb;rw [upd_other ea] at hxa
      cases hxb
      exact absurd ⟨a,x,ha,hxa,e⟩ hb
    · rw [if_neg ea] at ha; rw [if_neg eb] at hb'
      rw [upd_other ea] at hxa;rw [upd_other eb] at hxb
      exact H.inj a b x y ha hb' hxa hxb e
  · rw [upd_other (by omega)];exact H.new n (by omega)
  · obtain ⟨s,hs⟩:=H.glob g hg;exact ⟨s,hx _ _ hs⟩

section
variable {ops:Array Oper}{nt B0:Nat}{D:List Deferred}{E:List Nat}{B:Nat→Nat}{ro:Option Nat}{tm0 tm:Tmps}{ls:Array Bool}{a:Act}{w:World}{done:List Nat}{left had:List (Nat × Oper)}{h:Heap}{c:Nat}

/-- What is noted lasts behind an effect of the plan. -/
theorem Sim.early_next (S:Sim P η ops nt D B0 tm0 E B σ ls a w done left had tm h c)(R:OpsR P ops){i:Nat}{o:Oper}{tm':Tmps}{h':Heap}(hi:ops[i]? = some o)(hni:i ∉ done)(hnp:∀ j∈done,ls.getD j false=false→j ∉ pr o)(hoth:∀ t,o.dst≠some t→tm'.get t=tm.get t)(hs:still P ops tm' h' (watched (pr o) had)=true)
    (hold:∀ t,(∀ j,Wr ops t j→j ∉ i::done)→evO tm' (.tmp t)=evO tm0 (.tmp t)){j:Nat}{oj:Oper}(hjd:j∈done)(hjl:ls.getD j false=false)(hoj:ops[j]? = some oj):Early P ops nt tm0 tm' h' oj:=by
  have hji:j≠i:=fun q=>hni (q ▸ hjd)
  obtain ⟨e1,e2,e3,e4⟩:=(S.early j hjd hjl oj hoj).keep R hoj hi hji (fun q=>hni (S.ord.pre j hjd oj hoj i q)) hoth
  refine ⟨e1,e2,fun q=>?_,e4⟩
  obtain ⟨q1,v',q2,q3⟩:=e3 q
  cases hr:isRead oj.op with
  | false=>exact ⟨q1,v',by rw [aVal_heap (h':=h) hr];exact q2,q3⟩
  | true =>
    obtain ⟨v'',d,s1,s2,s3⟩:=still_mem hs (watched_mem (S.hds j hjd oj hoj) hr (hnp j hjd hjl)) q
    have hvv:v''=v':=by have:=q3 d s2;simp only [evO_tmp,s3] at this;exact this
    subst hvv
    refine ⟨q1,v'',?_,q3⟩
    rw [← s1]
    refine (aVal_congr fun x hx=>?_).symm
    cases x with
    | tmp t =>
      simp only [rhoE]
      cases e:writer t (number 0 ops.toList) with
      | none=>exact hold t fun k ⟨ok,h1,h2⟩=>absurd h2 (writer_none e (mem_all.2 h1))
      | some k =>
        obtain ⟨ok,k1,k2⟩:=writer_some e
        rcases R.opnd j oj t k hoj hx ⟨ok,mem_all.1 k1,k2⟩ with p | ⟨p,_⟩
        · have : memN k (pr oj) = true := memN_iff.2 p
          simp only [this,cond_true]
        · rw [hr] at p;cases p
    | const v=>rfl
    | global g=>rfl
    | func f=>rfl

/-- What the draw has done ahead of the plan is done by the plan. -/
theorem Sim.adopt (S:Sim P η ops nt D B0 tm0 E B σ ls a w done left had tm h c)(R:OpsR P ops)(hn:nt≤bigN){call:Caller}{i:Nat}{o:Oper}{r:Res}{kk:Tmps→Heap→Nat→Option Res}{σ0:Sig}{h0:Heap}{c0:Nat}{w0:World}(W:Went P η σ0 h0 c0 w0 σ h c w)(hB:w0.heap.size≤B0)(hl:(i,o)∈left)(hE:i∈E)
    (hd:doOp P call ops nt o tm h c (fun tm h c=>bif still P ops tm h (watched (pr o) had) then kk tm h c else none)=some r) :
    ∃ σ' tm' h' c',Went P η σ0 h0 c0 w0 σ' h' c' w∧kk tm' h' c'=some r∧Sim P η ops nt D B0 tm0 (E.filter (· != i)) B σ' ls a w (i::done) (strike i left) ((i,o)::had) tm' h' c':=by
  obtain ⟨hi,hni⟩:=S.lft2 _ hl
  simp only at hi hni
  obtain ⟨o1,ho1,V⟩:=S.ovr i hE
  rw [hi] at ho1;cases ho1
  obtain ⟨_,el,cs,sl,tm',f1,hc,hk,ht⟩:=doOp_fresh V.frs V.grd hd
  obtain ⟨el',cs',sl',C,vs,v1,v2,v3,v4,v5,v6⟩:=V.val
  rw [f1] at v1;cases v1
  cases hs:still P ops tm' (h.set deep c (some (.cells el cs))) (watched (pr o) had) with
  | false=>simp [hs] at hk
  | true=>
  simp only [hs,cond_true] at hk
  have hx:Ext σ (upd σ c ⟨B i,0,0⟩):=ext_upd (S.rel.new c (Nat.le_refl _))
  have hbl:B i<w.heap.size:=lt_of_heap v5
  have hrel:HR P (upd σ c ⟨B i,0,0⟩) η (h.set deep c (some (.cells el cs))) (c+1) w:=
    adopt_ok (l:=⟨B i,0,0⟩) S.rel hc V.nlv ⟨C,(0,0),vs,v5,fun k _ q=>by omega,concs_ext hx v2,v3,fun k x hk=>by rw [← v4] at hk;simpa using hk,by rw [← v4];simp,by simp⟩
  have liv':∀ b,Liv (upd σ c ⟨B i,0,0⟩) (h.set deep c (some (.cells el cs))) b→b=B i∨Liv σ h b:=by
    rintro b ⟨m,x,hm,hmx,e⟩
    rw [get_put hc] at hm
    by_cases em:m=c
    · rw [em,upd_same] at hmx;cases hmx;exact .inl e.symm
    · rw [if_neg em] at hm;rw [upd_other em] at hmx;exact .inr ⟨m,x,hm,hmx,e⟩
  have hoth:∀ t,o.dst≠some t→tm'.get t=tm.get t:=by
    intro t hne
    rcases ht with ⟨_,rfl⟩ | ⟨d,hd,hlt,rfl⟩
    · rfl
    · rw [get_put (Nat.le_trans (Nat.le_of_lt hlt) hn), if_neg]
      rintro rfl;exact hne hd
  have hev:∀ t,o.dst≠some t→evO tm' (.tmp t)=evO tm (.tmp t):=fun t q=>by simp only [evO_tmp,hoth t q]
  have hmine:∀ d,o.dst=some d→evO tm' (.tmp d)=mkV c sl:=by
    intro d hd
    rcases ht with ⟨q,_⟩ | ⟨d',hd',hlt,rfl⟩
    · rw [hd] at q;cases q
    · rw [hd] at hd'; cases hd'
      rw [evO_set (Nat.le_trans (Nat.le_of_lt hlt) hn),if_pos rfl]
  have hold:∀ t,(∀ j,Wr ops t j→j ∉ i::done)→evO tm' (.tmp t)=evO tm0 (.tmp t):=by
    intro t hall
    have hne:o.dst≠some t:=fun q=>hall i ⟨o,hi,q⟩ (by simp)
    rw [hev t hne]
    exact S.old t fun j hw hj=>hall j hw (List.mem_cons_of_mem _ hj)
  have hil:ls.getD i false=true:=(S.dis i hE).2
  have hmem:∀ j,j∈E.filter (· != i) ↔ j∈E∧j≠i:=fun j=>by simp
  refine ⟨_,tm',_,_,⟨W.ext.trans hx,hrel,W.kept,fun b hb q=>?_,fun m x hm hmx=>?_⟩,hk,?_⟩
  · rcases liv' b q with rfl | q
    · exact absurd (Nat.lt_of_lt_of_le hb hB) (Nat.not_lt.2 V.lo)
    · exact W.liv b hb q
  · rw [get_put hc] at hm
    by_cases em:m=c
    · rw [em,upd_same] at hmx;cases hmx;exact .inl rfl
    · rw [if_neg em] at hm;rw [upd_other em] at hmx;exact W.off m x hm hmx
  · refine { sz := S.sz, sub := fun j hj => ?_, rel := hrel, tsz := S.tsz, dfr := S.dfr, v1 := fun t hall => ?_, v2 := fun t j hw hj hjl => ?_, old := hold, down := S.down, ord := ⟨hni, fun o' ho' j hj => by rw [hi] at ho'; cases ho'; exact V.pre j hj, S.ord⟩, early := fun j hj hjl oj hoj => ?_, lft := fun j oj hoj => ?_, lft2 := fun x hx => ?_, hds := fun j hj oj hoj => ?_, rng := fun j hj => ?_, dis := fun j hj => ?_, ovr := fun j hj => ?_, apt := fun j hj k hk => S.apt j ((hmem j).1 hj).1 k ((hmem k).1 hk).1, low := S.low }
    · rcases S.sub j hj with q | q
      · exact .inl (List.mem_cons_of_mem _ q)
      · by_cases e : j = i
        · exact .inl (by simp [e])
        · exact .inr ((hmem j).2 ⟨q,e⟩)
    · by_cases q : o.dst = some t
      · rw [hmine t q, v6 t q]
        exact mkV_conc (upd_same _ _ _)
      · rw [hev t q]
        refine conc_ext hx (S.v1 t fun j hw=>?_)
        obtain ⟨k1,k2⟩:=hall j hw
        refine ⟨fun qE=>?_,fun hj=>k2 (List.mem_cons_of_mem _ hj)⟩
        by_cases e:j=i
        · subst e
          obtain ⟨o',h1,h2⟩:=hw
          rw [hi] at h1;cases h1
          exact q h2
        · exact k1 ((hmem j).2 ⟨qE,e⟩)
    · refine conc_ext hx (S.v2 t j hw ?_ hjl)
      rcases List.mem_cons.1 hj with rfl | hj
      · rw [hil] at hjl;cases hjl
      · exact hj
    · have hji : j ≠ i := fun q => by subst q; rw [hil] at hjl; cases hjl
      exact S.early_next R hi hni (fun k hk hkl q=>by have:=S.down i o hil hi k q;rw [hkl] at this;cases this) hoth hs hold ((List.mem_cons.1 hj).resolve_left hji) hjl hoj
    · rcases S.lft j oj hoj with q | q
      · exact .inl (List.mem_cons_of_mem _ q)
      · by_cases e : j = i
        · exact .inl (by simp [e])
        · exact .inr (strike_mem.2 ⟨q,e⟩)
    · obtain ⟨q1, q2⟩ := strike_mem.1 hx
      obtain ⟨q3,q4⟩:=S.lft2 x q1
      exact ⟨q3,fun q=>(List.mem_cons.1 q).elim q2 q4⟩
    · rcases List.mem_cons.1 hj with rfl | hjd
      · rw [hi] at hoj;cases hoj;simp
      · exact List.mem_cons_of_mem _ (S.hds j hjd oj hoj)
    · rcases List.mem_cons.1 hj with rfl | hjd
      · rcases Nat.lt_or_ge j ops.size with q | q
        · exact q
        · rw [Array.getElem?_eq_none q] at hi;cases hi
      · exact S.rng j hjd
    · obtain ⟨q1, q2⟩ := (hmem j).1 hj
      exact ⟨fun q=>(List.mem_cons.1 q).elim q2 (S.dis j q1).1,(S.dis j q1).2⟩
    · obtain ⟨q1, q2⟩ := (hmem j).1 hj
      obtain ⟨oj,h1,V'⟩:=S.ovr j q1
      exact ⟨oj,h1,V'.keep R h1 hx (fun k hk=>List.mem_cons_of_mem _ hk) (fun t hall=>hev t fun q=>hni (hall i ⟨o,hi,q⟩)) (fun q=>(liv' _ q).elim (S.apt j q1 i hE q2) V'.nlv) rfl fun _ _=>rfl⟩

/-- All quiet steps at the plan's head are done ahead, and all effects that the draw has done. -/
theorem Sim.absorb (R:OpsR P ops)(hn:nt≤bigN){call:Caller}{r:Res}{σ0:Sig}{h0:Heap}{c0:Nat}{w0:World}(hB:w0.heap.size≤B0):∀ (steps:List Step)(n:Nat)(E:List Nat)(σ:Sig)(done:List Nat)(left had:List (Nat × Oper))(tm:Tmps)(h:Heap)(c:Nat),Sim P η ops nt D B0 tm0 E B σ ls a w done left had tm h c→Went P η σ0 h0 c0 w0 σ h c w→planGo P (number 0 ops.toList) n left done had=some steps→doPlan P call ops nt steps tm h c=some r →
    ∃ steps' n' E' σ' done' left' had' tm' h' c',Sim P η ops nt D B0 tm0 E' B σ' ls a w done' left' had' tm' h' c'∧Went P η σ0 h0 c0 w0 σ' h' c' w∧planGo P (number 0 ops.toList) n' left' done' had'=some steps'∧doPlan P call ops nt steps' tm' h' c'=some r∧(steps'=[]∨∃ i o ws l,steps' = .eff i o ws::l∧i ∉ E')
  | [],n,E,σ,done,left,had,tm,h,c,S,W,hp,hd=>⟨[],n,E,σ,done,left,had,tm,h,c,S,W,hp,hd,.inl rfl⟩
  | .eff i o ws :: l, n, E, σ, done, left, had, tm, h, c, S, W, hp, hd => by
    by_cases hE:i∈E
    · cases n with
      | zero=>unfold planGo at hp;split at hp <;> cases hp
      | succ n =>
        unfold planGo at hp
        split at hp
        · cases hp
        · split at hp
          · rw [Option.map_eq_some_iff] at hp
            obtain ⟨_,_,q⟩:=hp;cases q
          · split at hp
            · rename_i i' o' hpick
              cases hr:restOk (number 0 ops.toList) i' (readyOnes done left) with
              | false=>simp [hr] at hp
              | true =>
                simp only [hr,cond_true,Option.map_eq_some_iff] at hp
                obtain ⟨l',h1,h2⟩:=hp
                cases h2
                obtain ⟨p1,p2⟩:=ready_mem.1 (pickMain_mem hpick)
                simp only [doPlan] at hd
                obtain ⟨σ',tm',h',c',W',k1,S'⟩:=S.adopt R hn W hB p1 hE hd
                exact Sim.absorb R hn hB l n _ σ' (i::done) (strike i left) ((i,o)::had) tm' h' c' S' W' h1 k1
            · cases hp
    · exact ⟨_,n,E,σ,done,left,had,tm,h,c,S,W,hp,hd,.inr ⟨i,o,ws,l,rfl,hE⟩⟩
  | .quiet i o :: l, n, E, σ, done, left, had, tm, h, c, S, W, hp, hd => by
    cases n with
    | zero=>unfold planGo at hp;split at hp <;> cases hp
    | succ n =>
      unfold planGo at hp
      split at hp
      · cases hp
      · split at hp
        · rename_i i' o' hpick
          rw [Option.map_eq_some_iff] at hp
          obtain ⟨l',h1,h2⟩:=hp
          cases h2
          obtain ⟨p1,p2,p3⟩:=pick_ok hpick
          simp only [doPlan] at hd
          obtain ⟨tm',k1,S'⟩:=S.ahead R hn p1 p2 p3 hd
          exact Sim.absorb R hn hB l n E σ (i::done) (strike i left) ((i,o)::had) tm' h c S' W h1 k1
        · split at hp
          · rename_i i' o' hpick
            cases hr:restOk (number 0 ops.toList) i' (readyOnes done left) with
            | false=>simp [hr] at hp
            | true =>
              simp only [hr,cond_true,Option.map_eq_some_iff] at hp
              obtain ⟨_,_,q⟩:=hp;cases q
          · cases hp
end
end
/- An evaluator of closed runs: a region that draws its order, whole. -/
section
variable {σ σ':Sig}{η:Env}{P:Program}

theorem Went.kept' {h:Heap}{c:Nat}{w w':World}(H:HR P σ η h c w)(k:Kept (fun _=>False) w w'):Went P η σ h c w σ h c w':=
  ⟨Ext.refl _,⟨fun n o hn=>let ⟨l,hl,ob⟩:=H.obj n o hn;⟨l,hl,ob.block (k.block _ ob.lt (fun q=>q))⟩,H.inj,H.new,H.glob⟩,⟨k.os,k.tape,k.output,k.size,fun b hb _=>k.block b hb (fun q=>q)⟩,fun _ _ q=>q,fun n l hn hl=>.inr ⟨n,l,hn,hl,rfl⟩⟩

section
variable {ops:Array Oper}{nt B0:Nat}{D:List Deferred}{E:List Nat}{B:Nat→Nat}{ro:Option Nat}{tm0 tm:Tmps}{ls:Array Bool}{a:Act}{w:World}{done:List Nat}{left had:List (Nat × Oper)}{h:Heap}{c:Nat}

/-- The plan and the draw do an effect together. -/
theorem Sim.effect (S:Sim P η ops nt D B0 tm0 E B σ ls a w done left had tm h c)(R:OpsR P ops)(hn:nt≤bigN){call:Caller}(hcall:CallOk P η call){i:Nat}{o:Oper}{Q:Exit→Act→World→Prop}{K:Act→World→Prop}{r:Res}{kk:Tmps→Heap→Nat→Option Res}(hl:(i,o)∈left)(hiE:i ∉ E)(heff:isEffect P o.op=true)(hpre:∀ j∈pr o,ls.getD j false=true)(hdn:∀ j∈pr o,j∈done)
    (hd:doOp P call ops nt o tm h c (fun tm h c=>bif still P ops tm h (watched (pr o) had) then kk tm h c else none)=some r)
    (hK:∀ σ' a' w' tm' h' c',Went P η σ h c w σ' h' c' w'→kk tm' h' c'=some r→Sim P η ops nt D B0 tm0 E B σ' (ls.setIfInBounds i true) a' w' (i::done) (strike i left) ((i,o)::had) tm' h' c'→K a' w'):wpOpIn (Fr ro) 0 P ops Q i K a w:=by
  obtain ⟨hi,hni⟩:=S.lft2 _ hl
  simp only at hi hni
  have hlt:i<ops.size:=by
    rcases Nat.lt_or_ge i ops.size with q | q
    · exact q
    · rw [Array.getElem?_eq_none q] at hi;cases hi
  have hlt':i<ls.size:=by rw [S.sz];exact hlt
  have opnd:∀ t,.tmp t∈o.op.operands→conc σ η (evO tm (.tmp t))=some (a.tmps.getD t undef):=by
    intro t ht
    refine S.v1 t fun j hw=>?_
    have q:=R.eff hi heff ht hw
    exact ⟨fun x=>(S.dis j x).1 (hdn j q),fun _=>hpre j q⟩
  -- the state behind it
  have fin:∀ σ' tm' v u h' c' w',Went P η σ h c w σ' h' c' w'→conc σ' η v=some u→((o.dst=none∧tm'=tm)∨∃ d,o.dst=some d∧d<nt∧tm'=tm.set deep d (some v)) →
      (bif still P ops tm' h' (watched (pr o) had) then kk tm' h' c' else none)=some r→K (a.put o.dst u) w':=by
    intro σ' tm' v u h' c' w' W hv ht hk
    cases hs:still P ops tm' h' (watched (pr o) had) with
    | false=>simp [hs] at hk
    | true =>
      simp only [hs,cond_true] at hk
      have hoth:∀ t,o.dst≠some t→tm'.get t=tm.get t:=by
        intro t hne
        rcases ht with ⟨_,rfl⟩ | ⟨d,hd,hlt,rfl⟩
        · rfl
        · rw [get_put (Nat.le_trans (Nat.le_of_lt hlt) hn), if_neg]
          rintro rfl;exact hne hd
      have hev:∀ t,o.dst≠some t→evO tm' (.tmp t)=evO tm (.tmp t):=fun t q=>by simp only [evO_tmp,hoth t q]
      have hmine:∀ d,o.dst=some d→evO tm' (.tmp d)=v∧d<nt:=by
        intro d hd
        rcases ht with ⟨q,_⟩ | ⟨d',hd',hlt,rfl⟩
        · rw [hd] at q;cases q
        · rw [hd] at hd'; cases hd'
          exact ⟨by rw [evO_set (Nat.le_trans (Nat.le_of_lt hlt) hn),if_pos rfl],hlt⟩
      have hget:∀ t,(a.put o.dst u).tmps.getD t undef=if o.dst=some t then u else a.tmps.getD t undef:=by
        intro t
        cases hd:o.dst with
        | none=>simp [Act.put]
        | some d =>
          rw [getD_put (by rw [S.tsz];exact (hmine d hd).2)]
          by_cases q:t=d
          · subst q;simp
          · rw [if_neg q,if_neg (by simp;exact fun x=>q x.symm)]
      have hold:∀ t,(∀ j,Wr ops t j→j ∉ i::done)→evO tm' (.tmp t)=evO tm0 (.tmp t):=by
        intro t hall
        have hne:o.dst≠some t:=fun q=>hall i ⟨o,hi,q⟩ (by simp)
        rw [hev t hne]
        exact S.old t fun j hw hj=>hall j hw (List.mem_cons_of_mem _ hj)
      refine hK σ' _ w' tm' h' c' W hk { sz:=by simpa using S.sz,sub:=fun j hj=>?_,rel:=W.rel,tsz:=by cases hd:o.dst <;> simp [Act.put,S.tsz],dfr:=by cases hd:o.dst <;> exact S.dfr,v1:=fun t hall=>?_,v2:=fun t j hw hj hjl=>?_,old:=hold,down:=fun j oj hj hoj k hk=>?_,ord:=⟨hni,fun o' ho' j hj=>by rw [hi] at ho';cases ho';exact hdn j hj,S.ord⟩,early:=fun j hj hjl oj hoj=>?_,lft:=fun j oj hoj=>?_,lft2:=fun x hx=>?_,hds:=fun j hj oj hoj=>?_,rng:=fun j hj=>?_,dis:=fun j hj=>?_,ovr:=fun j hj=>?_,apt:=S.apt,low:=Nat.le_trans S.low W.kept.size }
      · rw [getD_set hlt'] at hj
        split at hj
        · rename_i q;exact .inl (by simp [q])
        · exact (S.sub j hj).imp (List.mem_cons_of_mem _) id
      · rw [hget]
        split
        · rename_i q;rw [(hmine t q).1];exact hv
        · rename_i q
          rw [hev t q]
          refine conc_ext W.ext (S.v1 t fun j hw=>⟨(hall j hw).1,fun hj=>?_⟩)
          have:=(hall j hw).2 (List.mem_cons_of_mem _ hj)
          rw [getD_set hlt'] at this
          split at this
          · rename_i q2;subst q2;exact absurd hj hni
          · exact this
      · rw [getD_set hlt'] at hjl
        split at hjl
        · cases hjl
        · rename_i q
          rw [hget,if_neg]
          · refine conc_ext W.ext (S.v2 t j hw ?_ hjl)
            exact (List.mem_cons.1 hj).resolve_left q
          · intro q2;exact q (R.inj t j i hw ⟨o,hi,q2⟩)
      · rw [getD_set hlt'] at hj ⊢
        split at hj
        · rename_i q; subst q
          rw [hi] at hoj;cases hoj
          split
          · rfl
          · exact hpre k hk
        · split
          · rfl
          · exact S.down j oj hj hoj k hk
      · rw [getD_set hlt'] at hjl
        split at hjl
        · cases hjl
        · rename_i hji
          exact S.early_next R hi hni (fun k hk hkl q=>by have:=hpre k q;rw [hkl] at this;cases this) hoth hs hold ((List.mem_cons.1 hj).resolve_left hji) hjl hoj
      · rcases S.lft j oj hoj with q | q
        · exact .inl (List.mem_cons_of_mem _ q)
        · by_cases e : j = i
          · exact .inl (by simp [e])
          · exact .inr (strike_mem.2 ⟨q,e⟩)
      · obtain ⟨q1, q2⟩ := strike_mem.1 hx
        obtain ⟨q3,q4⟩:=S.lft2 x q1
        exact ⟨q3,fun q=>(List.mem_cons.1 q).elim q2 q4⟩
      · rcases List.mem_cons.1 hj with rfl | hjd
        · rw [hi] at hoj;cases hoj;simp
        · exact List.mem_cons_of_mem _ (S.hds j hjd oj hoj)
      · rcases List.mem_cons.1 hj with rfl | hjd
        · exact hlt
        · exact S.rng j hjd
      · exact ⟨fun q=>(List.mem_cons.1 q).elim (fun e=>hiE (e ▸ hj)) (S.dis j hj).1,by rw [getD_set hlt'];split <;> first | rfl | exact (S.dis j hj).2⟩
      · obtain ⟨oj, h1, V⟩ := S.ovr j hj
        obtain ⟨_,_,_,_,_,_,_,_,_,v5,_⟩:=V.val
        refine ⟨oj,h1,V.keep R h1 W.ext (fun k hk=>List.mem_cons_of_mem _ hk) (fun t hall=>hev t fun q=>hni (hall i ⟨o,hi,q⟩)) (fun q=>V.nlv (W.liv _ (lt_of_heap v5) q)) (W.kept.block _ (lt_of_heap v5) V.nlv) fun d hd=>?_⟩
        rw [hget,if_neg fun q=>hiE (R.inj d i j ⟨o,hi,q⟩ ⟨oj,h1,hd⟩ ▸ hj)]
  unfold wpOpIn
  simp only [hi]
  have hw:wantA ops tm o=Region.wanted o (yielded ops a.tmps):=want_ok (σ:=σ) (η:=η) fun j b d hg hd=>S.sees R hpre hdn (R.grd i o j b hi hg) (bind_dst hd)
  rw [← hw]
  unfold doOp at hd
  cases ew:wantA ops tm o with
  | true =>
    simp only [ew,cond_true] at hd
    simp only [if_true]
    cases eo:okOp P o.op with
    | false=>simp [eo] at hd
    | true =>
      simp only [eo,cond_true] at hd
      exact op_ok hcall S.rel (fun x hx=>ev_ok S.rel.glob (okOp_ok eo x hx) fun t e=>opnd t (e ▸ hx)) hd fin
  | false =>
    simp only [ew,cond_false] at hd
    simp only [Bool.false_eq_true,if_false]
    obtain ⟨tm',k1,k2⟩:=putT_ok hd
    exact ⟨fun _ _=>trivial,fin σ tm' uv undef h c w (Went.refl S.rel) conc_uv k2 k1⟩

/-- The draw does a fresh operation ahead of the plan. -/
theorem Sim.over (S:Sim P η ops nt D B0 tm0 E B σ ls a w done left had tm h c)(R:OpsR P ops){i:Nat}{o:Oper}{Q:Exit→Act→World→Prop}{K:Act→World→Prop}(hl:(i,o)∈left)(hil:ls.getD i false=false)(hf:isFresh o.op=true)(hg:o.guard=none)(hpre:∀ j∈pr o,ls.getD j false=true)(hdn:∀ j∈pr o,j∈done)
    (ho:okOp P o.op=true)(hdst:∀ d,o.dst=some d→d<nt){x:Nat × List AV × Option (Nat × Nat)}(hx:freshA P (evO tm) o.op=some x)
    (hK:∀ a' w' B',(∀ k,k<w.heap.size→w'.heap[k]? = w.heap[k]?)→w.heap.size≤w'.heap.size→w'.os=w.os→w'.tape=w.tape→w'.output=w.output→Sim P η ops nt D B0 tm0 (i::E) B' σ (ls.setIfInBounds i true) a' w' done left had tm h c→K a' w'):wpOpIn (Fr ro) 0 P ops Q i K a w:=by
  obtain ⟨el,cs,sl⟩:=x
  obtain ⟨hi,hni⟩:=S.lft2 _ hl
  simp only at hi hni
  have hiE:i ∉ E:=fun q=>by rw [(S.dis i q).2] at hil;cases hil
  have hlt:i<ops.size:=by
    rcases Nat.lt_or_ge i ops.size with q | q
    · exact q
    · rw [Array.getElem?_eq_none q] at hi;cases hi
  have hlt':i<ls.size:=by rw [S.sz];exact hlt
  have opnd:∀ t,.tmp t∈o.op.operands→conc σ η (evO tm (.tmp t))=some (a.tmps.getD t undef):=by
    intro t ht
    refine S.v1 t fun j hw=>?_
    have q:=R.eff hi (fresh_eff hf) ht hw
    exact ⟨fun x=>(S.dis j x).1 (hdn j q),fun _=>hpre j q⟩
  obtain ⟨C,vs,k1,k2,k3,k4⟩:=fresh_run (o:=o) (w:=w) hx (fun x hm=>ev_ok S.rel.glob (okOp_ok ho x hm) fun t e=>opnd t (e ▸ hm))
  unfold wpOpIn
  simp only [hi]
  have hw:Region.wanted o (yielded ops a.tmps)=true:=by unfold Region.wanted;rw [hg]
  simp only [hw,if_true]
  refine ⟨fun _ _=>trivial,?_⟩
  rw [Oper.semAt_eq _ _ _ (fun c hc=>by rw [hc] at hf;cases hf),k4,Oper.uponIn_value]
  have hget:∀ t,(a.put o.dst (mkU w.heap.size sl)).tmps.getD t undef=if o.dst=some t then mkU w.heap.size sl else a.tmps.getD t undef:=by
    intro t
    cases hd:o.dst with
    | none=>simp [Act.put]
    | some d =>
      rw [getD_put (by rw [S.tsz];exact hdst d hd)]
      by_cases q:t=d
      · subst q;simp
      · rw [if_neg q,if_neg (by simp;exact fun x=>q x.symm)]
  have hb:∀ k,k<w.heap.size→(w.heap.push (.cells C el))[k]? = w.heap[k]?:=fun k hk=>by
    rw [Array.getElem?_push,if_neg (by omega)]
  have hrel:HR P σ η h c { w with heap:=w.heap.push (.cells C el) }:=(Went.kept' (σ:=σ) (w':={ w with heap:=w.heap.push (.cells C el) }) S.rel ⟨rfl,rfl,rfl,by simp,fun k hk _=>hb k hk⟩).rel
  have live:∀ b,Liv σ h b→b<w.heap.size:=by
    rintro b ⟨n,l,h1,h2,rfl⟩
    cases e:h.get n with
    | none=>rw [e] at h1;cases h1
    | some q =>
      obtain ⟨l',hl',ob⟩:=S.rel.obj n q e
      rw [h2] at hl';cases hl'
      exact ob.lt
  refine hK _ _ (fun j=>if j=i then w.heap.size else B j) hb (by simp) rfl rfl rfl { sz:=by simpa using S.sz,sub:=fun j hj=>?_,rel:=hrel,tsz:=by cases hd:o.dst <;> simp [Act.put,S.tsz],dfr:=by cases hd:o.dst <;> exact S.dfr,v1:=fun t hall=>?_,v2:=fun t j hw hj hjl=>?_,old:=S.old,down:=fun j oj hj hoj k hk=>?_,ord:=S.ord,early:=fun j hj hjl oj hoj=>?_,lft:=S.lft,lft2:=S.lft2,hds:=S.hds,rng:=S.rng,dis:=fun j hj=>?_,ovr:=fun j hj=>?_,apt:=fun j hj k hk hne=>?_,low:=Nat.le_trans S.low (by simp) }
  · rw [getD_set hlt'] at hj
    split at hj
    · rename_i q;exact .inr (by simp [q])
    · exact (S.sub j hj).imp id (List.mem_cons_of_mem _)
  · have hne : o.dst ≠ some t := fun q => (hall i ⟨o, hi, q⟩).1 (by simp)
    rw [hget,if_neg hne]
    refine S.v1 t fun j hw=>⟨fun q=>(hall j hw).1 (List.mem_cons_of_mem _ q),fun hj=>?_⟩
    have:=(hall j hw).2 hj
    rw [getD_set hlt'] at this
    split at this
    · rename_i q2;subst q2;exact absurd hj hni
    · exact this
  · have hne:o.dst≠some t:=fun q=>by
      have:=R.inj t j i hw ⟨o,hi,q⟩
      subst this;exact hni hj
    rw [hget,if_neg hne]
    refine S.v2 t j hw hj ?_
    rw [getD_set hlt'] at hjl
    split at hjl
    · cases hjl
    · exact hjl
  · rw [getD_set hlt'] at hj ⊢
    split at hj
    · rename_i q; subst q
      rw [hi] at hoj;cases hoj
      split
      · rfl
      · exact hpre k hk
    · split
      · rfl
      · exact S.down j oj hj hoj k hk
  · refine S.early j hj ?_ oj hoj
    rw [getD_set hlt'] at hjl
    split at hjl
    · cases hjl
    · exact hjl
  · rcases List.mem_cons.1 hj with rfl | hj
    · exact ⟨hni,by rw [getD_set hlt',if_pos rfl]⟩
    · exact ⟨(S.dis j hj).1,by rw [getD_set hlt'];split <;> first | rfl | exact (S.dis j hj).2⟩
  · rcases List.mem_cons.1 hj with rfl | hj
    · refine ⟨o, hi, hf, hg, ho, hdn, hdst, ?_, ?_, el, cs, sl, C, vs, hx, k1, k2, k3, ?_, fun d hd => ?_⟩
      · rw [if_pos rfl];exact S.low
      · rw [if_pos rfl];exact fun q=>Nat.lt_irrefl _ (live _ q)
      · rw [if_pos rfl];simp
      · rw [if_pos rfl,hget,if_pos hd]
    · have hji : j ≠ i := fun q => hiE (q ▸ hj)
      obtain ⟨oj,h1,V⟩:=S.ovr j hj
      obtain ⟨_,_,_,_,_,_,_,_,_,v5,_⟩:=V.val
      refine ⟨oj,h1,?_⟩
      rw [if_neg hji]
      refine V.keep R h1 (Ext.refl _) (fun _ q=>q) (fun _ _=>rfl) V.nlv (hb _ (lt_of_heap v5)) fun d hd=>?_
      rw [hget,if_neg fun q=>hji (R.inj d j i ⟨oj,h1,hd⟩ ⟨o,hi,q⟩)]
  · have blk:∀ j∈E,B j<w.heap.size:=fun j hj=>by
      obtain ⟨oj,h1,V⟩:=S.ovr j hj
      obtain ⟨_,_,_,_,_,_,_,_,_,v5,_⟩:=V.val
      exact lt_of_heap v5
    by_cases ej:j=i <;> by_cases ek:k=i
    · exact absurd (ej.trans ek.symm) hne
    · have := blk k ((List.mem_cons.1 hk).resolve_left ek)
      rw [if_pos ej,if_neg ek];omega
    · have := blk j ((List.mem_cons.1 hj).resolve_left ej)
      rw [if_neg ej,if_pos ek];omega
    · rw [if_neg ej, if_neg ek]
      exact S.apt j ((List.mem_cons.1 hj).resolve_left ej) k ((List.mem_cons.1 hk).resolve_left ek) hne
end

theorem count_set {ls:Array Bool}{i:Nat}(hi:i<ls.size)(hf:ls.getD i true=false):(ls.setIfInBounds i true).toList.count false+1=ls.toList.count false:=by
  have hg:ls.toList[i]'(by simpa using hi)=false:=by
    rw [Array.getD_eq_getD_getElem?,Array.getElem?_eq_getElem hi] at hf
    simpa using hf
  rw [Array.toList_setIfInBounds,List.count_set (by simpa using hi),hg]
  have:0<ls.toList.count false:=List.count_pos_iff.2 (by rw [← hg];exact List.getElem_mem _)
  have e1:(if (false == false)=true then 1 else 0)=1:=rfl
  have e2:(if (true == false)=true then 1 else 0)=0:=rfl
  rw [e1,e2]
  omega

/-- Whatever is drawn, a region comes to what the plan comes to. -/
theorem draw_ok {ops:Array Oper}{nt B0:Nat}{D:List Deferred}{ro:Option Nat}{tm0:Tmps}{call:Caller}{Q:Exit→Act→World→Prop}{r:Res}(R:OpsR P ops)(hn:nt≤bigN)(hcall:CallOk P η call){σ0:Sig}{h0:Heap}{c0:Nat}{w0:World}(hB:w0.heap.size≤B0)
    (hQ:∀ σ' tm' h' c' a' w',r = .mk .norm tm' h' c'→Went P η σ0 h0 c0 w0 σ' h' c' w'→TR σ' η nt tm' a'.tmps→a'.defers=D→Q .normal a' w') :
    ∀ (fuel:Nat) (E:List Nat) (B:Nat→Nat) (σ:Sig) (ls:Array Bool) (a:Act) (w:World) (done:List Nat) (left had:List (Nat × Oper)) (tm:Tmps) (h:Heap) (c:Nat) (n:Nat) (steps:List Step),Sim P η ops nt D B0 tm0 E B σ ls a w done left had tm h c→Went P η σ0 h0 c0 w0 σ h c w→planGo P (number 0 ops.toList) n left done had=some steps→doPlan P call ops nt steps tm h c=some r →
      ls.toList.count false≤fuel→wpAnyIn (Fr ro) 0 P .any ops Q fuel ls a w:=by
  -- the plan's head, where it waits
  have head:∀ {n:Nat} {left had:List (Nat × Oper)} {done:List Nat} {i:Nat} {o:Oper} {ws:List Oper} {l:List Step},planGo P (number 0 ops.toList) n left done had=some (.eff i o ws::l)→pickQuiet P done left=none∧ws=watched (pr o) had∧pickMain (readyOnes done left)=some (i,o)∧restOk (number 0 ops.toList) i (readyOnes done left)=true∧∃ n',planGo P (number 0 ops.toList) n' (strike i left) (i::done) ((i,o)::had)=some l:=by
    intro n left had done i o ws l hp
    cases n with
    | zero=>unfold planGo at hp;split at hp <;> cases hp
    | succ n =>
      unfold planGo at hp
      split at hp
      · cases hp
      · split at hp
        · rw [Option.map_eq_some_iff] at hp
          obtain ⟨_,_,q⟩:=hp;cases q
        · rename_i hpn
          split at hp
          · rename_i i' o' hpick
            cases hr:restOk (number 0 ops.toList) i' (readyOnes done left) with
            | false=>simp [hr] at hp
            | true =>
              simp only [hr,cond_true,Option.map_eq_some_iff] at hp
              obtain ⟨l',h1,h2⟩:=hp
              cases h2
              exact ⟨hpn,rfl,hpick,hr,n,h1⟩
          · cases hp
  have none_left:∀ {n:Nat} {left had:List (Nat × Oper)} {done:List Nat},planGo P (number 0 ops.toList) n left done had=some []→left=[]:=by
    intro n left had done hp
    cases n with
    | zero=>unfold planGo at hp;split at hp <;> first | rfl | cases hp
    | succ n =>
      unfold planGo at hp
      split at hp
      · rfl
      · split at hp
        · rw [Option.map_eq_some_iff] at hp
          obtain ⟨_,_,q⟩:=hp;cases q
        · split at hp
          · rename_i i' o' _
            cases hr:restOk (number 0 ops.toList) i' (readyOnes done left) with
            | false=>simp [hr] at hp
            | true =>
              simp only [hr,cond_true,Option.map_eq_some_iff] at hp
              obtain ⟨_,_,q⟩:=hp;cases q
          · cases hp
  -- where nothing is ready any more all is done
  have shut:∀ (E:List Nat) (B:Nat→Nat) (σ:Sig) (ls:Array Bool) (a:Act) (w:World) (done:List Nat) (left had:List (Nat × Oper)) (tm:Tmps) (h:Heap) (c:Nat) (n:Nat) (steps:List Step),Sim P η ops nt D B0 tm0 E B σ ls a w done left had tm h c→Went P η σ0 h0 c0 w0 σ h c w→planGo P (number 0 ops.toList) n left done had=some steps→doPlan P call ops nt steps tm h c=some r →
      (steps=[]∨∃ i o ws l,steps = .eff i o ws::l∧i ∉ E)→Region.ready .any ops ls=[]→Q .normal a w:=by
    intro E B σ ls a w done left had tm h c n steps S W hp hd hh hr
    have lst:∀ d,Ord ops d→(∀ i∈d,i∈done)→∀ i∈d,ls.getD i false=true:=by
      intro d
      induction d with
      | nil=>intro _ _ i hi;cases hi
      | cons x d ih =>
        rintro ⟨o1,o2,o3⟩ hd i hi
        have ihd:=ih o3 fun i hi=>hd i (List.mem_cons_of_mem _ hi)
        rcases List.mem_cons.1 hi with rfl | hi
        · have hlt := S.rng i (hd i (by simp))
          cases e:ls.getD i false with
          | true=>rfl
          | false =>
            have:i∈Region.ready .any ops ls:=mem_ready.2 ⟨hlt,by
              have hs:i<ls.size:=by rw [S.sz];exact hlt
              rw [Array.getD_eq_getD_getElem?,Array.getElem?_eq_getElem hs] at e ⊢
              simpa using e,_,Array.getElem?_eq_getElem hlt,fun j hj=>ihd j (o2 _ (Array.getElem?_eq_getElem hlt) j hj)⟩
            rw [hr] at this;cases this
        · exact ihd i hi
    have all:=lst done S.ord (fun i hi=>hi)
    rcases hh with rfl | ⟨i,o,ws,l,rfl,hiE⟩
    · simp only [doPlan, Option.some.injEq] at hd
      have hl0:=none_left hp
      have hE:∀ j,j ∉ E:=fun j hj=>by
        obtain ⟨o,h1,_⟩:=S.ovr j hj
        rcases S.lft j o h1 with q | q
        · exact (S.dis j hj).1 q
        · rw [hl0] at q;cases q
      exact hQ σ tm h c a w hd.symm W ⟨S.tsz,fun t=>S.v1 t fun j _=>⟨hE j,fun hj=>all j hj⟩⟩ S.dfr
    · exfalso
      obtain ⟨_,_,hpick,_,_⟩:=head hp
      obtain ⟨q1,q2⟩:=ready_mem.1 (pickMain_mem hpick)
      obtain ⟨q3,q4⟩:=S.lft2 _ q1
      simp only at q3 q4
      have hlt:i<ops.size:=by
        rcases Nat.lt_or_ge i ops.size with q | q
        · exact q
        · rw [Array.getElem?_eq_none q] at q3;cases q3
      have hnl:ls.getD i false=false:=by
        cases e:ls.getD i false with
        | true=>exact absurd (S.sub i e) fun q=>q.elim q4 hiE
        | false=>rfl
      have:i∈Region.ready .any ops ls:=mem_ready.2 ⟨hlt,by
        have hs:i<ls.size:=by rw [S.sz];exact hlt
        rw [Array.getD_eq_getD_getElem?,Array.getElem?_eq_getElem hs] at hnl ⊢
        simpa using hnl,o,q3,fun j hj=>all j (q2 j hj)⟩
      rw [hr] at this;cases this
  intro fuel
  induction fuel with
  | zero =>
    intro E B σ ls a w done left had tm h c n steps S W hp hd hc
    obtain ⟨steps,n,E,σ,done,left,had,tm,h,c,S,W,hp,hd,hh⟩:=Sim.absorb R hn hB steps n E σ done left had tm h c S W hp hd
    have hr:Region.ready .any ops ls=[]:=by
      cases e:Region.ready .any ops ls with
      | nil=>rfl
      | cons i l =>
        obtain ⟨h1,h2,_⟩:=mem_ready.1 (show i∈Region.ready .any ops ls by rw [e];simp)
        have:=count_set (by rw [S.sz];exact h1) h2
        omega
    exact ⟨hr,shut E B σ ls a w done left had tm h c n steps S W hp hd hh hr⟩
  | succ fuel ih =>
    intro E B σ ls a w done left had tm h c n steps S W hp hd hc
    obtain ⟨steps,n,E,σ,done,left,had,tm,h,c,S,W,hp,hd,hh⟩:=Sim.absorb R hn hB steps n E σ done left had tm h c S W hp hd
    refine ⟨shut E B σ ls a w done left had tm h c n steps S W hp hd hh,fun i hi=>?_⟩
    obtain ⟨h1,h2,o,h3,h4⟩:=mem_ready.1 hi
    have hs:i<ls.size:=by rw [S.sz];exact h1
    have hcnt:=count_set hs h2
    have hnl:ls.getD i false=false:=by
      rw [Array.getD_eq_getD_getElem?,Array.getElem?_eq_getElem hs] at h2 ⊢
      simpa using h2
    by_cases hid:i∈done
    · exact S.late R h3 hnl h4 hid fun a' S'=>ih E B σ _ a' w done left had tm h c n steps S' W hp hd (by omega)
    · have hl := (S.lft i o h3).resolve_left hid
      rcases hh with rfl | ⟨i0,o0,ws,l,rfl,hi0⟩
      · rw [none_left hp] at hl;cases hl
      · obtain ⟨hpn, hws, hpick, hrest, n', p1⟩ := head hp
        obtain ⟨m1,m2⟩:=ready_mem.1 (pickMain_mem hpick)
        have h0d:i0 ∉ done:=(S.lft2 _ m1).2
        have h0l:ls.getD i0 false=false:=by
          cases e:ls.getD i0 false with
          | false=>rfl
          | true=>exact absurd (S.sub i0 e) fun q=>q.elim h0d hi0
        -- what is ready in the draw is ready in the plan
        have hdn:∀ j∈pr o,j∈done:=fun p hpp=>by
          rcases S.sub p (h4 p hpp) with q | q
          · exact q
          · exfalso
            obtain ⟨op,k1,V⟩:=S.ovr p q
            have hpl:=(S.lft p op k1).resolve_left (S.dis p q).1
            rcases restOk_mem hrest p op (ready_mem.2 ⟨hpl,V.pre⟩) with e | ⟨_,_,hh⟩
            · exact hi0 (e ▸ q)
            · have := behind_ls S.down 4 i (hangs_mem hh i o (mem_all.2 h3) hpp) fun o' ho' x hx => by rw [h3] at ho'; cases ho'; exact h4 x hx
              rw [h0l] at this;cases this
        have heff:=pick_none hpn hl hdn
        by_cases e:i=i0
        · subst e
          have:o=o0:=by
            have:=(S.lft2 _ m1).1
            simp only at this
            rw [h3] at this;cases this;rfl
          subst this
          subst hws
          simp only [doPlan] at hd
          exact S.effect R hn hcall hl hi0 heff h4 hdn hd fun σ' a' w' tm' h' c' W' hk S'=>ih E B σ' _ a' w' _ _ _ tm' h' c' n' l S' (W.trans W') p1 hk (by omega)
        · rcases restOk_mem hrest i o (ready_mem.2 ⟨hl, hdn⟩) with q | ⟨hf, hg, _⟩
          · exact absurd q e
          · obtain ⟨r1, r2, x, r3⟩ := plan_fresh R hn h3 hf hg _ n done left had tm h c hp hd hl hdn S.lft2
            exact S.over R hl hnl hf hg h4 hdn r1 r2 r3 fun a' w' B' b1 b2 b3 b4 b5 S'=>ih (i::E) B' σ _ a' w' done left had tm h c n _ S' (W.trans (Went.kept' W.rel ⟨b3,b4,b5,b2,fun k hk _=>b1 k hk⟩)) hp hd (by omega)
end
end Go.Eng
