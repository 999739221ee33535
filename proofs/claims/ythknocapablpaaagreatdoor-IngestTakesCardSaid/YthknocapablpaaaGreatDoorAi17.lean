/- A part of the proof. -/
import Derived.LoopNIn
import Derived.Scope
import Derived.RangeFuncRecord
import Derived.Test.YthknocapablpaaaGreatDoorAi16
namespace Go.Eng
/- An evaluator of closed runs: what it reckons is what the program does, on every draw. -/
section
variable {σ σ':Sig}{η:Env}{P:Program}

def exOf:Ex→Exit
  | .norm=>.normal
  | .exit id=>.exit id
  | .ret=>.ret

theorem getD_rep {n i:Nat}:(Array.replicate n false).getD i false=false:=by
  rw [Array.getD_eq_getD_getElem?]
  by_cases h:i<n
  · rw [Array.getElem?_eq_getElem (by simpa using h)];simp
  · rw [Array.getElem?_eq_none (by simpa using h)];rfl

def initF:Nat→List AV→Tmps→Tmps
  | _,[],tm=>tm
  | i,x::l,tm=>initF (i+1) l (tm.set deep i (some x))
theorem initT_eq {β:Type}:∀ (l:List AV)(i:Nat)(tm:Tmps)(k:Tmps→Option β),initT i l tm k=k (initF i l tm)
  | [],_,_,_=>rfl
  | x::l,i,tm,k=>by simp only [initT,setK_eq,initF,initT_eq l]
theorem initF_ev:∀ (l:List AV)(i:Nat)(tm:Tmps)(t:Nat),i+l.length≤bigN+1→evO (initF i l tm) (.tmp t)=if i≤t∧t<i+l.length then l.getD (t - i) uv else evO tm (.tmp t)
  | [], i, tm, t, _ => by
    have:¬ (i≤t∧t<i+([]:List AV).length):=by simp only [List.length_nil];omega
    rw [if_neg this];rfl
  | x :: l, i, tm, t, h => by
    simp only [List.length_cons] at h
    rw [initF,initF_ev l (i+1) _ t (by omega),evO_set (by omega)]
    by_cases e:t=i
    · subst e
      rw [if_neg (by omega),if_pos rfl,if_pos (by simp)]
      simp
    · by_cases q : i + 1 ≤ t ∧ t < i + 1 + l.length
      · rw [if_pos q, if_pos (by simp; omega)]
        have:t - i=(t - (i+1))+1:=by omega
        rw [this]
        simp
      · rw [if_neg q,if_neg e,if_neg (by simp;omega)]

theorem resV_ok {tm:Tmps}{h:Heap}{c nt:Nat}{ts:Array Value}{w:World}(H:HR P σ η h c w)(T:TR σ η nt tm ts):∀ {l:List ResultVar}{vs:List AV},resV tm h P l=some vs→∃ us,concs σ η vs=some us ∧
    (l.mapM (fun | .tmp t=>pure (ts.getD t undef) | .cell a t=>do loadVar t (← asAddr (ts.getD a undef)):ResultVar→Sem Value)).run P w = .ok us w
  | [],vs,h=>by simp [resV] at h;subst h;exact ⟨[],rfl,rfl⟩
  | .tmp t :: l, vs, hh => by
    simp only [resV,Option.map_eq_some_iff] at hh
    obtain ⟨vs',h1,rfl⟩:=hh
    obtain ⟨us,u1,u2⟩:=resV_ok H T h1
    exact ⟨_,concs_cons.2 ⟨_,_,T.val t,u1,rfl⟩,by simp only [List.mapM_cons,Sem.run_bind,Sem.run_pure,Result.andThen_ok,u2]⟩
  | .cell a t :: l, vs, hh => by
    simp only [resV] at hh
    split at hh
    · rename_i n o ea
      simp only [Option.bind_eq_some_iff,Option.map_eq_some_iff] at hh
      obtain ⟨⟨t',cs⟩,hc,v,hp,vs',h1,rfl⟩:=hh
      obtain ⟨us,u1,u2⟩:=resV_ok H T h1
      have ha:=T.val a
      rw [ea] at ha
      obtain ⟨lc,hl,hv⟩:=conc_ptr.1 ha
      obtain ⟨u,q1,q2⟩:=load_ok H hc hl hp
      exact ⟨_,concs_cons.2 ⟨_,_,q1,u1,rfl⟩,by
        have hA:(asAddr (ts.getD a undef)).run P w = .ok ⟨lc.blk,lc.off+o,none⟩ w:=by rw [hv];rfl
        simp only [List.mapM_cons,Sem.run_bind,hA,Sem.run_pure,Result.andThen_ok,q2,u2]⟩
    · cases hh

theorem oneV_ok {vs:List AV}{us:List Value}(h:concs σ η vs=some us):conc σ η (oneV vs)=some (if h:us.toArray.size=1 then us.toArray[0] else .tuple us.toArray):=by
  match vs,us,h with
  | [],us,h=>simp [concs] at h;subst h;exact conc_tup.2 ⟨[],rfl,rfl⟩
  | [x], us, h =>
    obtain ⟨v,r,h1,h2,rfl⟩:=concs_cons.1 h
    simp [concs] at h2;subst h2
    simpa [oneV] using h1
  | x :: y :: l, us, h =>
    obtain ⟨v,r,h1,h2,rfl⟩:=concs_cons.1 h
    obtain ⟨v2,r2,h3,h4,rfl⟩:=concs_cons.1 h2
    have:¬ ((v::v2::r2).toArray.size=1):=by simp
    rw [dif_neg this]
    exact conc_tup.2 ⟨_,h,rfl⟩

theorem stepR_scope {b:Frame}{a:Act}{k:List Item}{cs:List Frame}{w:World}{c:Code}:step P (lone (b.atR a (.code (.scope c)::k)) cs w) = .next (lone (b.atR a (.code c :: .inScope c::k)) cs w):=
  step_lone_go (by simp [stepG,stepG.exec,Frame.atR])
theorem stepR_inScope {b:Frame}{a:Act}{k:List Item}{cs:List Frame}{w:World}{c:Code}:step P (lone (b.atR a (.inScope c::k)) cs w) = .next (lone (b.atR a k) cs w):=
  step_lone_go (by simp [stepG,stepG.exec,Frame.atR])
theorem wpIn_scope {F:Fence}{n:Nat}{c:Code}{a:Act}{w:World}{Q:Exit→Act→World→Prop}(h:c.wpIn F n P (Exit.noGoto Q) a w):(Code.scope c).wpIn F n P Q a w:=by
  intro b k cs hro hb hr
  have h0:(lone (b.atR a (.code (.scope c)::k)) cs w).fenced P F:=fenced_calm hb hr rfl
  obtain ⟨e,a₁,w₁,hq,harr⟩:=h b (.inScope c::k) cs hro hb hr
  cases e with
  | normal=>exact ⟨.normal,a₁,w₁,hq,.head h0 stepR_scope (StepsIn.trans harr (.one (fenced_calm hb hr rfl) stepR_inScope))⟩
  | exit id =>
    have hx:exitTo id (.inScope c::k)=exitTo id k:=by simp [exitTo]
    exact ⟨_,a₁,w₁,hq,fun k' hk=>.head h0 stepR_scope (harr.1 k' (by rw [hx];exact hk)),fun hr' hk=>let ⟨k₁,h1,h2⟩:=harr.2 hr' (by rw [hx];exact hk);⟨k₁,h1,.head h0 stepR_scope h2⟩⟩
  | goto l=>exact hq.elim
  | ret=>exact ⟨_,a₁,w₁,hq,.of_steps (.one h0 stepR_scope) harr⟩
  | panic ch=>exact ⟨_,a₁,w₁,hq,.of_steps (.one h0 stepR_scope) harr⟩
  | outgrown=>exact ⟨_,a₁,w₁,hq,.of_steps (.one h0 stepR_scope) harr⟩

/-! ### deferred calls -/
def DR (σ:Sig)(η:Env):List Dfr→List Deferred→Prop
  | [],[]=>True
  | .mark n::ds,d::D=>(∃ l,σ n=some l∧d={ target:=.collected l.blk,args:=#[] })∧DR σ η ds D
  | .call f as::ds,d::D=>(∃ capt dargs,d={ target:=.fn (.func f) capt,args:=dargs }∧concs σ η as=some (dargs++capt).toList)∧DR σ η ds D
  | _,_=>False
theorem DR.ext (hx:Ext σ σ'):∀ {ds:List Dfr}{D:List Deferred},DR σ η ds D→DR σ' η ds D
  | [],[],_=>trivial
  | .mark _::_,_::_,⟨⟨l,h1,h2⟩,h3⟩=>⟨⟨l,hx _ _ h1,h2⟩,h3.ext hx⟩
  | .call _ _::_,_::_,⟨⟨x,y,h1,h2⟩,h3⟩=>⟨⟨x,y,h1,concs_ext hx h2⟩,h3.ext hx⟩
  | [],_::_,h=>h.elim
  | .mark _::_,[],h=>h.elim
  | .call _ _::_,[],h=>h.elim

/-- The round that a frame is of. -/
def RoR (σ:Sig):Option Nat→Option Nat→Prop
  | none,r=>r=none
  | some l,r=>∃ x,σ l=some x∧r=some x.blk
theorem RoR.ext (hx:Ext σ σ'):∀ {ro r:Option Nat},RoR σ ro r→RoR σ' ro r
  | none,_,h=>h
  | some _,_,⟨x,h1,h2⟩=>⟨x,hx _ _ h1,h2⟩

/-- What code comes to. -/
def PostC (P:Program)(η:Env)(σ:Sig)(h:Heap)(c:Nat)(w:World)(nt:Nat)(e:Ex)(tm':Tmps)(ds':List Dfr)(h':Heap)(c':Nat):Exit→Act→World→Prop:=fun ex a' w'=>
  ∃ σ',ex=exOf e∧DR σ' η ds' a'.defers∧TR σ' η nt tm' a'.tmps∧Went P η σ h c w σ' h' c' w'
theorem PostC.after {h h1 h':Heap}{c c1 c':Nat}{w w1:World}{nt:Nat}{e:Ex}{tm':Tmps}{ds':List Dfr}(W:Went P η σ h c w σ' h1 c1 w1){ex:Exit}{a:Act}{w':World}(q:PostC P η σ' h1 c1 w1 nt e tm' ds' h' c' ex a w'):PostC P η σ h c w nt e tm' ds' h' c' ex a w':=by
  obtain ⟨σ2,q1,q2,q3,q4⟩:=q
  exact ⟨σ2,q1,q2,q3,W.trans q4⟩

theorem region_ok {id:Nat}{ops:Array Oper}{call:Caller}{nt:Nat}{ro:Option Nat}{tm tm':Tmps}{ds:List Dfr}{h h':Heap}{c c':Nat}{e:Ex}{a:Act}{w:World}(hcall:CallOk P η call)(hn:nt≤bigN)(he:doOps P call ops nt ops.toList tm h c=some (.mk e tm' h' c'))(H:HR P σ η h c w)(T:TR σ η nt tm a.tmps)(hd:DR σ η ds a.defers) :
    (Code.region id ops false).wpIn (Fr ro) 0 P (PostC P η σ h c w nt .norm tm' ds h' c') a w:=by
  refine wpIn_region ?_
  have:=doOps_ok (ro:=ro) (Q:=PostC P η σ h c w nt .norm tm' ds h' c') (js:=[]) hcall hn ops.toList [] 0 tm h c _ σ a w (by simp) he H T rfl (by
    intro σ2 tm2 h2 c2 a2 w2 q W2 T2 d2
    cases q
    exact ⟨σ2,rfl,d2 ▸ hd.ext W2.ext,T2,W2⟩)
  rw [List.range_eq_range']
  simpa using this

theorem splitD_ok:∀ {l:List Oper}{x:List Oper}{f:Operand}{args:List Operand},splitD l=some (x,f,args)→∃ o cl,l=x++[o]∧o.op = .defer cl∧o.guard=none∧cl.callee = .value f∧o.dst=none∧args=cl.args.toList
  | [],_,_,_,h=>by simp [splitD] at h
  | [o], x, f, args, h => by
    simp only [splitD] at h
    split at h
    · rename_i cl h1 h2
      split at h
      · rename_i f' h3
        split at h
        · rename_i h4
          cases h
          exact ⟨o,cl,rfl,h1,h2,h3,h4,rfl⟩
        · cases h
      · cases h
    · cases h
  | o :: p :: l, x, f, args, h => by
    simp only [splitD,Option.map_eq_some_iff] at h
    obtain ⟨⟨y,z⟩,h1,h2⟩:=h
    cases h2
    obtain ⟨o',cl,k1,k2⟩:=splitD_ok (l:=p::l) (by simpa only [splitD] using h1)
    exact ⟨o',cl,by rw [k1];rfl,k2⟩

theorem defer_ok {id:Nat}{ops:Array Oper}{call:Caller}{nt:Nat}{tm tm':Tmps}{ds:List Dfr}{h h':Heap}{c c':Nat}{e:Ex}{a:Act}{w:World}{l:List Oper}{f:Operand}{args:List Operand}{g:Nat}{first capt:List AV}(hcall:CallOk P η call)(hn:nt≤bigN)(hs:splitD ops.toList=some (l,f,args))(he:doOps P call ops nt l tm h c=some (.mk e tm' h' c'))
    (ho:(okO P f && args.all (okO P))=true)(hf:evO tm' f = .func g first capt)(H:HR P σ η h c w)(T:TR σ η nt tm a.tmps)(hd:DR σ η ds a.defers) :
    (Code.region id ops false).wpIn (Fr none) 0 P (PostC P η σ h c w nt .norm tm' (.call g (first++args.map (evO tm')++capt)::ds) h' c') a w:=by
  obtain ⟨o,cl,h1,h2,h3,h4,h5,rfl⟩:=splitD_ok hs
  refine wpIn_region ?_
  have hsz:ops.size=l.length+1:=by have:=congrArg List.length h1;simpa using this
  rw [List.range_eq_range',hsz]
  rw [Bool.and_eq_true] at ho
  have hol:ops[l.length]? = some o:=by rw [← Array.getElem?_toList,h1];simp
  have:=doOps_ok (ro:=none) (Q:=PostC P η σ h c w nt .norm tm' (.call g (first++cl.args.toList.map (evO tm')++capt)::ds) h' c') (js:=[l.length]) hcall hn l [o] 0 tm h c _ σ a w (by simp [h1]) he H T rfl (by
    intro σ2 tm2 h2' c2 a2 w2 q W2 T2 d2
    cases q
    rw [wpOpsIn_cons]
    unfold wpOpIn
    simp only [hol]
    have hw:Region.wanted o (yielded ops a2.tmps)=true:=by unfold Region.wanted;rw [h3]
    simp only [hw,if_true]
    refine ⟨fun _ _=>trivial,?_⟩
    have hfv:=ev_ok W2.rel.glob ho.1 (fun t _=>T2.val t)
    rw [hf] at hfv
    obtain ⟨x,y,k1,k2,hv⟩:=conc_func.1 hfv
    have hargs:concs σ2 η (cl.args.toList.map (evO tm'))=some (cl.args.map a2.eval).toList:=by
      rw [Array.toList_map]
      exact concs_map fun z hz=>ev_ok W2.rel.glob (List.all_eq_true.1 ho.2 z hz) (fun t _=>T2.val t)
    have hrun:(Oper.semAt (Fr none).round a2.eval o).run P w2 = .ok (.defer { target:=.fn (.func g) y.toArray,args:=x.toArray++cl.args.map a2.eval }) w2:=by
      show (Oper.semAt none a2.eval o).run P w2=_
      rw [Oper.semAt_none]
      unfold execOp
      rw [h2]
      simp only [resolve,h4,hv,Deferred.ofValue,Sem.run_bind,Sem.run_pure,Result.andThen_ok]
    rw [hrun,Oper.uponIn_defer,h5]
    refine ⟨σ2,rfl,⟨⟨y.toArray,_,rfl,?_⟩,?_⟩,T2,W2⟩
    · have := concs_append (concs_append k1 hargs) k2
      simpa using this
    · exact d2 ▸ hd.ext W2.ext)
  rw [List.range'_concat]
  simpa using this

theorem draw_region_ok {id:Nat}{ops:Array Oper}{call:Caller}{nt:Nat}{ro:Option Nat}{tm tm':Tmps}{ds:List Dfr}{h h':Heap}{c c':Nat}{e:Ex}{a:Act}{w:World}{steps:List Step}(hm:P.follows .mixedOrders=true)(hcall:CallOk P η call)(hn:nt≤bigN)(hp:plan P ops=some steps)(he:doPlan P call ops nt steps tm h c=some (.mk e tm' h' c'))(H:HR P σ η h c w)(T:TR σ η nt tm a.tmps)(hd:DR σ η ds a.defers) :
    (Code.region id ops true).wpIn (Fr ro) 0 P (PostC P η σ h c w nt .norm tm' ds h' c') a w:=by
  refine wpIn_region_any hm ?_
  unfold plan at hp
  cases eo:(distinctN (dsts ops.toList) && opsOk P (number 0 ops.toList) (number 0 ops.toList)) with
  | false=>simp [eo] at hp
  | true =>
    simp only [eo,cond_true] at hp
    rw [Bool.and_eq_true] at eo
    have R:=opsR eo.1 eo.2
    have H':HR P σ η h c w.drew:=H.heap rfl
    have S:Sim P η ops nt a.defers w.heap.size tm [] (fun _=>0) σ (Array.replicate ops.size false) a w.drew [] (number 0 ops.toList) [] tm h c:=
      { sz:=by simp,sub:=fun i hi=>by (rw [getD_rep] at hi;cases hi),rel:=H',tsz:=T.size,dfr:=rfl,v1:=fun t _=>T.val t,v2:=fun t j _ hj=>(by cases hj),old:=fun _ _=>rfl,down:=fun i o hi=>by (rw [getD_rep] at hi;cases hi),ord:=trivial,early:=fun i hi=>(by cases hi),
        lft:=fun i o hi=>.inr (mem_all.2 hi),lft2:=fun x hx=>⟨mem_all.1 hx,by simp⟩,hds:=fun i hi=>(by cases hi),rng:=fun i hi=>(by cases hi),dis:=fun i hi=>(by cases hi),ovr:=fun i hi=>(by cases hi),apt:=fun i hi=>(by cases hi),low:=Nat.le_refl _ }
    have W0:Went P η σ h c w σ h c w.drew:=(Went.refl H).heap rfl rfl rfl rfl
    refine draw_ok (ro:=ro) (Q:=PostC P η σ h c w nt .norm tm' ds h' c') (r:=.mk e tm' h' c') R hn hcall (σ0:=σ) (h0:=h) (c0:=c) (w0:=w) (Nat.le_refl _) ?_ ops.size [] _ σ _ a w.drew [] _ [] tm h c _ steps S W0 hp he (by simp)
    intro σ2 tm2 h2 c2 a2 w2 q W2 T2 d2
    cases q
    exact ⟨σ2,rfl,d2 ▸ hd.ext W2.ext,T2,W2⟩

/-- Summaries: a function that only reckons; a function that turns the heap. -/
structure SmOk (P:Program) (η:Env) (sm:Sm):Prop where
  val:∀ f g,sm.val f=some g→∀ args v,g args=some v→∀ σ avs w,concs σ η args=some avs→Leads P f avs.toArray w (fun e w'=>∃ u,e = .returned u∧conc σ η v=some u∧Kept (fun _=>False) w w')
  full:∀ f g,sm.full f=some g→∀ args h c v h' c',g args h c=some (.mk v h' c')→∀ σ w avs,HR P σ η h c w→concs σ η args=some avs→Leads P f avs.toArray w (Done P η σ h c w v h' c')

/-- None of the functions counts goroutines. -/
def NoGo (P:Program):Bool:=P.funcs.toList.all fun fn=>!(fn.name == "runtime.NumGoroutine")
theorem enters {f:Nat}{fn:Func}{b:Code}(hng:NoGo P=true)(hf:P.funcs[f]? = some fn)(hb:fn.body=some b)(args:Array Value)(w:World):(callFunc f args).run P w = .ok (.enter f args) w:=by
  have:(fn.name == "runtime.NumGoroutine")=false:=by
    have:=List.all_eq_true.1 hng fn (Array.mem_toList_iff.2 (Array.mem_of_getElem? hf))
    simpa using this
  simp only [callFunc,Sem.run_bind,run_program,Result.andThen_ok,hf,this,Bool.false_eq_true,if_false,hb,Option.isNone_some,Sem.run_pure]
theorem leads_of_calls {f:Nat}{fn:Func}{b:Code}{args:Array Value}{w:World}{R:Ending→World→Prop}(hng:NoGo P=true)(hf:P.funcs[f]? = some fn)(hb:fn.body=some b)(h:Calls P f args w R):Leads P f args w R:=
  .inl ⟨enters hng hf hb args w,callsIn_wide.2 h⟩
theorem Leads.mono {f:Nat}{args:Array Value}{w:World}{R R':Ending→World→Prop}(h:Leads P f args w R)(k:∀ e w,R e w→R' e w):Leads P f args w R':=by
  rcases h with ⟨h1,h2⟩ | ⟨u,w',h1,h2⟩
  · exact .inl ⟨h1,h2.mono k⟩
  · exact .inr ⟨u,w',h1,k _ _ h2⟩

/-! ### loops' records -/
theorem putL_ok {h:Heap}{c n:Nat}{w:World}{l:Loc}{r':Loop}{o:AObj}(H:HR P σ η h c w)(hn:n≤bigN)(hl:σ n=some l)(hlive:(h.get n).isSome=true)(ho:ObjR P σ η (w.putObj l.blk (.loop r')) l o):Went P η σ h c w σ (h.set deep n (some o)) c (w.putObj l.blk (.loop r')):=
  put_ok H hn hl hlive rfl ho

theorem setL_ok {β:Type}{h:Heap}{l st:Nat}{pend:Option (Option Code)}{k:Nat→Option Code→Heap→Option β}{r:β}(e:setL h l st pend k=some r):∃ st0 pend0 tm nt ps a b dn,h.get l=some (.loop st0 pend0 tm nt ps a b dn)∧l≤bigN∧k st0 pend0 (h.set deep l (some (.loop st (pend.getD pend0) tm nt ps a b dn)))=some r:=by
  unfold setL at e
  split at e
  · rename_i st0 pend0 tm nt ps a b dn hg
    cases pend with
    | some p =>
      simp only at e
      cases hb:Nat.ble l bigN with
      | false=>simp [hb] at e
      | true=>simp only [hb,cond_true,setK_eq] at e;exact ⟨_,_,_,_,_,_,_,_,hg,Nat.le_of_ble_eq_true hb,e⟩
    | none =>
      simp only at e
      cases hb:Nat.ble l bigN with
      | false=>simp [hb] at e
      | true=>simp only [hb,cond_true,setK_eq] at e;exact ⟨_,_,_,_,_,_,_,_,hg,Nat.le_of_ble_eq_true hb,e⟩
  · cases e

/-- A record of the heap: where it lies, and how it may be turned. -/
theorem HR.loopAt {h:Heap}{c n:Nat}{w:World}{st:Nat}{pend:Option Code}{tm:Tmps}{nt:Nat}{ps:List Nat}{a b:Code}{dn:Nat}{l:Loc}(H:HR P σ η h c w)(hg:h.get n=some (.loop st pend tm nt ps a b dn))(hl:σ n=some l):∃ r:Loop,w.heap[l.blk]? = some (.loop r)∧r.state=lState st∧r.pending=pend∧TR σ η nt tm r.tmps∧nt≤bigN∧r.params.toList=ps∧r.assign=a∧r.body=b∧(∃ d,σ dn=some d∧d.blk=r.defers) ∧
    ∀ (st':Nat) (pend':Option Code),n≤bigN→Went P η σ h c w σ (h.set deep n (some (.loop st' pend' tm nt ps a b dn))) c (w.putObj l.blk (.loop { r with state:=lState st',pending:=pend' })):=by
  obtain ⟨l',hl',r,h1,h2,h3,⟨h4,h4'⟩,h5,h6,h7,h8,h9⟩:=H.obj n _ hg
  rw [hl] at hl';cases hl'
  refine ⟨r,h1,h2,h3,⟨h4,h4'⟩,h5,h6,h7,h8,h9,fun st' pend' hn=>?_⟩
  refine putL_ok H hn hl (by rw [hg];rfl) ⟨_,World.putObj_heap_same (lt_of_heap h1),rfl,rfl,⟨h4,h4'⟩,h5,h6,h7,h8,h9⟩

theorem setPs_ok {nt:Nat}(hn:nt≤bigN){k:Tmps→Option CRes}{r:CRes}:∀ {ps:List Nat}{xs:List AV}{us:List Value}{tm:Tmps}{ts:Array Value},setPs nt ps xs tm k=some r→TR σ η nt tm ts→concs σ η xs=some us →
    ∃ tm',k tm'=some r∧us.length=ps.length∧TR σ η nt tm' ((ps.zip us).foldl (fun ts x=>ts.setIfInBounds x.1 x.2) ts)
  | [],[],us,tm,ts,h,T,hc=>by simp [concs] at hc;subst hc;exact ⟨tm,h,rfl,T⟩
  | [],_::_,_,_,_,h,_,_=>by simp [setPs] at h
  | _::_,[],_,_,_,h,_,_=>by simp [setPs] at h
  | p :: ps, x :: xs, us, tm, ts, h, T, hc => by
    obtain ⟨u,us',h1,h2,rfl⟩:=concs_cons.1 hc
    simp only [setPs] at h
    cases hb:Nat.ble (p+1) nt with
    | false=>simp [hb] at h
    | true =>
      simp only [hb,cond_true,setK_eq] at h
      have hlt:p<nt:=Nat.le_of_ble_eq_true hb
      have T':TR σ η nt (tm.set deep p (some x)) (ts.setIfInBounds p u):=by
        refine ⟨by simpa using T.size,fun t=>?_⟩
        rw [evO_set (Nat.le_trans (Nat.le_of_lt hlt) hn),Array.getD_eq_getD_getElem?]
        by_cases e:t=p
        · subst e;rw [if_pos rfl,Array.getElem?_setIfInBounds_self,if_pos (by rw [T.size];exact hlt)];exact h1
        · rw [if_neg e,Array.getElem?_setIfInBounds_ne (fun q=>e q.symm),← Array.getD_eq_getD_getElem?];exact T.val t
      obtain ⟨tm',k1,k2,k3⟩:=setPs_ok hn h T' h2
      exact ⟨tm',k1,by simp [k2],k3⟩
end
/- An evaluator of closed runs: code and calls, whole. -/
section
variable {σ σ':Sig}{η:Env}{P:Program}

theorem takeD_ok {h:Heap}{c n:Nat}{w:World}{l:Loc}(H:HR P σ η h c w)(hn:n≤bigN)(hg:h.get n=some .dfr)(hl:σ n=some l):(Instr.takeDeferred l.blk).run P w = .ok [] (w.putObj l.blk (.deferred none))∧Went P η σ h c w σ (h.set deep n none) c (w.putObj l.blk (.deferred none)):=by
  obtain ⟨l',hl',ob⟩:=H.obj n _ hg
  rw [hl] at hl';cases hl'
  have ob:w.heap[l.blk]? = some (.deferred (some [])):=ob
  exact ⟨run_takeDeferred ob,drop_ok H hn hl (by rw [hg];rfl) (by simp) (fun k hk=>World.putObj_heap_other hk) rfl rfl rfl⟩

/-- A function that is called as it is deferred. -/
def CallDOk (P:Program)(η:Env)(calld:Nat→List AV→Heap→Nat→Option CRes):Prop:=∀ f args h c v h' c',calld f args h c=some (.mk v h' c')→∀ σ w avs u,HR P σ η h c w→concs σ η args=some avs →
  (callFunc f avs.toArray).run P w = .ok (.enter f avs.toArray) w∧CallsDIn Fence.wide 0 P f avs.toArray u w fun e u' w'=>u'=u∧Done P η σ h c w v h' c' e w'

/-- A frame leaves: its deferred calls, its marks. -/
theorem unw_ok {calld:Nat→List AV→Heap→Nat→Option CRes}{fn:Func}{tmps:Array Value}{R:Ending→World→Prop}{k:Heap→Nat→Option CRes}{r:CRes}(hcd:CallDOk P η calld):∀ {ds:List Dfr}{D:List Deferred}{σ:Sig}{h:Heap}{c:Nat}{w:World},unw calld ds h c k=some r→HR P σ η h c w→DR σ η ds D →
    (∀ σ' h' c' w',Went P η σ h c w σ' h' c' w'→k h' c'=some r→∃ v,(results fn tmps).run P w' = .ok v w'∧R (.returned v) w')→LeavesInM Fence.wide 0 P fn tmps R D .returning w
  | [], [], σ, h, c, w, e, H, _, hk => by
    show LeavesIn Fence.wide 0 P fn tmps R [] .returning w
    exact hk σ h c w (Went.refl H) e
  | [],_::_,_,_,_,_,_,_,d,_=>d.elim
  | .mark _::_,[],_,_,_,_,_,_,d,_=>d.elim
  | .call _ _::_,[],_,_,_,_,_,_,d,_=>d.elim
  | .mark n :: ds, d :: D, σ, h, c, w, e, H, ⟨⟨l, hl, hd⟩, hD⟩, hk => by
    simp only [unw] at e
    split at e
    · rename_i hg
      cases hb:Nat.ble n bigN with
      | false=>simp [hb] at e
      | true =>
        simp only [hb,cond_true,setK_eq] at e
        obtain ⟨t1,W⟩:=takeD_ok H (Nat.le_of_ble_eq_true hb) hg hl
        refine ⟨by simp,.inl ⟨l.blk,_,by rw [hd],t1,?_⟩⟩
        exact unw_ok hcd e W.rel hD fun σ2 h2 c2 w2 W2 e2=>hk σ2 h2 c2 w2 (W.trans W2) e2
    · cases e
  | .call f as :: ds, d :: D, σ, h, c, w, e, H, ⟨⟨capt, dargs, hd, hc⟩, hD⟩, hk => by
    simp only [unw] at e
    split at e
    · rename_i v h1 c1 he
      obtain ⟨q1,q2⟩:=hcd f as h c v h1 c1 he σ w _ .returning H hc
      rw [Array.toArray_toList] at q1 q2
      refine ⟨by simp,.inr ⟨fun q=>(by cases q),.func f,capt,f,dargs++capt,by rw [hd],?_,fun _ _=>trivial,?_⟩⟩
      · rw [hd]
        exact q1
      · refine q2.mono ?_
        rintro e' u' w' ⟨rfl,x,σ2,rfl,_,W⟩
        exact unw_ok hcd e W.rel (hD.ext W.ext) fun σ3 h3 c3 w3 W3 e3=>hk σ3 h3 c3 w3 (W.trans W3) e3
    · cases e

theorem initTR {nt:Nat}{args:List AV}{avs:List Value}(ha:concs σ η args=some avs)(l1:args.length≤nt)(l2:nt≤bigN):TR σ η nt (initF 0 args .nil) (avs.toArray++Array.replicate (nt - avs.toArray.size) undef):=by
  have hal:=concs_length ha
  refine ⟨by simp;omega,fun t=>?_⟩
  rw [initF_ev args 0 _ t (by omega)]
  by_cases q:t<args.length
  · rw [if_pos ⟨Nat.zero_le _, (Nat.zero_add args.length).symm ▸ q⟩]
    obtain ⟨x,hx⟩:∃ x,args[t]? = some x:=⟨_,List.getElem?_eq_getElem q⟩
    obtain ⟨y,y1,y2⟩:=(concs_get ha t).2 x hx
    rw [List.getD_eq_getElem?_getD,Nat.sub_zero,hx,Array.getD_eq_getD_getElem?,Array.getElem?_append_left (by simpa [hal] using q)]
    simp only [List.getElem?_toArray,y1,Option.getD_some]
    exact y2
  · rw [if_neg (fun hh => q (by simpa using hh.2)), Array.getD_eq_getD_getElem?, Array.getElem?_append_right (by simpa [hal] using Nat.not_lt.1 q)]
    have hu:evO (Tr.nil:Tmps) (.tmp t)=uv:=by simp [evO_tmp,Tr.get_nil]
    rw [hu]
    have:((Array.replicate (nt - avs.toArray.size) undef)[t - avs.toArray.size]?).getD undef=undef:=by
      rw [Array.getElem?_replicate];split <;> rfl
    rw [this];exact conc_uv

/-- A function's results, where it ends. -/
theorem res_ok {fn:Func}{tm:Tmps}{h h':Heap}{c c' nt:Nat}{ts:Array Value}{w:World}{v:AV}(H:HR P σ η h c w)(T:TR σ η nt tm ts)(e:(match resV tm h P fn.results.toList with
      | some vs=>fAV (oneV vs) fun v=>some (CRes.mk v h c)
      | none=>none)=some (.mk v h' c')):h'=h∧c'=c∧∃ u,(results fn ts).run P w = .ok u w∧conc σ η v=some u:=by
  split at e
  · rename_i vs hv
    rw [fAV_eq] at e
    cases e
    obtain ⟨us,u1,u2⟩:=resV_ok H T hv
    refine ⟨rfl,rfl,_,?_,oneV_ok u1⟩
    unfold results
    rw [Sem.run_bind,← Array.toArray_toList (xs:=fn.results),List.mapM_toArray,Sem.run_map]
    erw [u2]
    rfl
  · cases e

theorem jump_post {l:Nat}{R:Ending→World→Prop}{e:Ex}{a:Act}{w:World}(h:∃ v w',(Instr.endRound l (jumpOf e)).run P w = .ok v w'∧R (.returned v) w'):roundPost P l R (exOf e) a w:=by
  cases e <;> exact h

theorem enterL_ok {ro ro':Option Nat}{h:Heap}{c:Nat}{ds:List Dfr}{k:Nat→List Dfr→Heap→Nat→Option CdR}{r:CdR}{w:World}{tm:Tmps}{nt:Nat}{ts:Array Value}{D:List Deferred}(e:enterL ro h c ds k=some r)(H:HR P σ η h c w)(hr:RoR σ ro ro')(T:TR σ η nt tm ts)(hD:DR σ η ds D)(hnt:nt≤bigN)(fn:Nat)(ps:Array Tmp)(x y:Code) :
    ∃ dn ds1 h1 l,k dn ds1 h1 l=some r∧(l≤bigN→∃ L mark w1 σ1,(Instr.enterLoop fn ts ps x y ro').run P w = .ok (L,mark) w1∧(∃ sl,σ1 l=some ⟨L,0,sl⟩)∧DR σ1 η ds1 (mark++D)∧Went P η σ h c w σ1 (h1.set deep l (some (.loop 0 none tm nt ps.toList x y dn))) (l+1) w1):=by
  unfold enterL at e
  cases ro with
  | none =>
    simp only at e
    have hr:ro'=none:=hr
    subst hr
    cases hb:Nat.ble c bigN with
    | false=>simp [hb] at e
    | true =>
      simp only [hb,cond_true,setK_eq,fNat_eq] at e
      refine ⟨_,_,_,_,e,fun hl=>?_⟩
      have W1:Went P η σ h c w (upd σ c ⟨w.heap.size,0,0⟩) (h.set deep c (some .dfr)) (c+1) (w.alloc (.deferred (some []))):=
        new_ok (sl:=0) H (Nat.le_of_ble_eq_true hb) (O:=.deferred (some [])) rfl rfl rfl rfl (by
          show (w.heap.push _)[w.heap.size]? = _
          simp)
      have hx:=W1.ext
      have W2:=new_ok (sl:=0) W1.rel hl (O:=.loop { state:=.ready,pending:=none,fn:=fn,tmps:=ts,params:=ps,assign:=x,body:=y,defers:=w.heap.size }) (w':=(w.alloc (.deferred (some []))).alloc (.loop { state:=.ready,pending:=none,fn:=fn,tmps:=ts,params:=ps,assign:=x,body:=y,defers:=w.heap.size })) (o:=.loop 0 none tm nt ps.toList x y c) rfl rfl rfl rfl
        ⟨_,World.alloc_heap_new _ _,rfl,rfl,⟨T.size,fun t=>conc_ext (ext_upd (W1.rel.new _ (Nat.le_refl _))) (conc_ext hx (T.val t))⟩,hnt,rfl,rfl,rfl,⟨w.heap.size,0,0⟩,by rw [upd_other (by omega)];exact upd_same _ _ _,rfl⟩
      refine ⟨_,_,_,_,run_enterLoop_outer fn ts ps x y,⟨0,?_⟩,⟨⟨⟨w.heap.size,0,0⟩,?_,rfl⟩,(hD.ext hx).ext W2.ext⟩,W1.trans W2⟩
      · rw [upd_same,World.size_alloc]
      · rw [upd_other (by omega)];exact upd_same _ _ _
  | some l0 =>
    simp only at e
    obtain ⟨x0,hx0,hr⟩:=hr
    subst hr
    split at e
    · rename_i st pend tm0 nt0 ps0 a0 b0 dn hg
      obtain ⟨r0,h1,_,_,_,_,_,_,_,⟨d,hd,hd2⟩,_⟩:=H.loopAt hg hx0
      refine ⟨_,_,_,_,e,fun hl=>?_⟩
      have W2:=new_ok (sl:=0) H hl (O:=.loop { state:=.ready,pending:=none,fn:=fn,tmps:=ts,params:=ps,assign:=x,body:=y,defers:=r0.defers }) (w':=w.alloc (.loop { state:=.ready,pending:=none,fn:=fn,tmps:=ts,params:=ps,assign:=x,body:=y,defers:=r0.defers })) (o:=.loop 0 none tm nt ps.toList x y dn) rfl rfl rfl rfl
        ⟨_,World.alloc_heap_new _ _,rfl,rfl,⟨T.size,fun t=>conc_ext (ext_upd (H.new _ (Nat.le_refl _))) (T.val t)⟩,hnt,rfl,rfl,rfl,d,ext_upd (H.new _ (Nat.le_refl _)) _ _ hd,hd2⟩
      have hrun:(Instr.enterLoop fn ts ps x y (some x0.blk)).run P w = .ok (w.heap.size,[]) (w.alloc (.loop { state:=.ready,pending:=none,fn:=fn,tmps:=ts,params:=ps,assign:=x,body:=y,defers:=r0.defers })):=by
        unfold Instr.enterLoop
        simp only [Sem.run_bind,run_getLoop h1,run_newObj_alloc,Result.andThen,Sem.run_pure]
      exact ⟨_,_,_,_,hrun,⟨0,upd_same _ _ _⟩,hD.ext W2.ext,W2⟩
    · cases e

theorem code_all {sm:Sm}(hm:P.follows .mixedOrders=true)(hng:NoGo P=true)(hsm:SmOk P η sm):∀ n,
    (∀ cd ro ro' nt tm ds h c e tm' ds' h' c',nt≤bigN→code P sm n cd ro nt tm ds h c=some (.mk e tm' ds' h' c')→∀ σ w a,HR P σ η h c w→TR σ η nt tm a.tmps→DR σ η ds a.defers→RoR σ ro ro'→cd.wpIn (Fr ro') 0 P (PostC P η σ h c w nt e tm' ds' h' c') a w) ∧
    (∀ b ro ro' nt tm ds h c e tm' ds' h' c',nt≤bigN→code P sm n (.loop b) ro nt tm ds h c=some (.mk e tm' ds' h' c')→∀ σ w a,HR P σ η h c w→TR σ η nt tm a.tmps→DR σ η ds a.defers→RoR σ ro ro'→Code.roundsIn (Fr ro') 0 P b (PostC P η σ h c w nt e tm' ds' h' c') n a w) ∧
    CallOk P η (callE P sm n)∧CallDOk P η (callD P sm n)
  | 0 => by
    refine ⟨fun cd ro ro' nt tm ds h c e tm' ds' h' c' _ hc=>?_,fun b ro ro' nt tm ds h c e tm' ds' h' c' _ hc=>?_,fun f args h c v h' c' hc=>?_,fun f args h c v h' c' hc=>?_⟩
    · simp [code] at hc
    · simp [code] at hc
    · simp [callE] at hc
    · simp [callD] at hc
  | n + 1 => by
    obtain ⟨ihC,ihL,ihF,ihD⟩:=code_all hm hng hsm n
    have loops:∀ b ro ro' nt tm ds h c e tm' ds' h' c',nt≤bigN→code P sm (n+1) (.loop b) ro nt tm ds h c=some (.mk e tm' ds' h' c')→∀ σ w a,HR P σ η h c w→TR σ η nt tm a.tmps→DR σ η ds a.defers→RoR σ ro ro'→Code.roundsIn (Fr ro') 0 P b (PostC P η σ h c w nt e tm' ds' h' c') (n+1) a w:=by
      intro b ro ro' nt tm ds h c e tm' ds' h' c' hn hc σ w a H T hd hr
      simp only [code] at hc
      rw [roundsIn_succ]
      cases eb:code P sm n b ro nt tm ds h c with
      | none=>simp [eb] at hc
      | some r =>
        obtain ⟨e1,tm1,ds1,h1,c1⟩:=r
        refine wpIn_mono (ihC b ro ro' nt tm ds h c e1 tm1 ds1 h1 c1 hn eb σ w a H T hd hr) ?_
        rintro ex a' w' ⟨σ1,rfl,d1,T1,W1⟩
        cases e1 with
        | norm =>
          simp only [eb] at hc
          have:=ihL b ro ro' nt tm1 ds1 h1 c1 e tm' ds' h' c' hn hc σ1 w' a' W1.rel T1 d1 (hr.ext W1.ext)
          have mono:∀ (m:Nat) (a:Act) (w2:World),Code.roundsIn (Fr ro') 0 P b (PostC P η σ1 h1 c1 w' nt e tm' ds' h' c') m a w2→Code.roundsIn (Fr ro') 0 P b (PostC P η σ h c w nt e tm' ds' h' c') m a w2:=by
            intro m
            induction m with
            | zero=>intro a w2 hr;exact hr
            | succ m ihm =>
              intro a w2 hr
              rw [roundsIn_succ] at hr ⊢
              refine wpIn_mono hr ?_
              intro ex a3 w3 hq
              cases ex <;> first | exact ihm _ _ hq | exact PostC.after W1 hq
          exact mono n a' w' this
        | exit id =>
          simp only [eb,Option.some.injEq,CdR.mk.injEq] at hc
          obtain ⟨rfl,rfl,rfl,rfl,rfl⟩:=hc
          exact ⟨σ1,rfl,d1,T1,W1⟩
        | ret =>
          simp only [eb,Option.some.injEq,CdR.mk.injEq] at hc
          obtain ⟨rfl,rfl,rfl,rfl,rfl⟩:=hc
          exact ⟨σ1,rfl,d1,T1,W1⟩
    refine ⟨?_,loops,?_,?_⟩
    · intro cd ro ro' nt tm ds h c e tm' ds' h' c' hn hc σ w a H T hd hr
      cases cd with
      | skip=>simp only [code,Option.some.injEq,CdR.mk.injEq] at hc;obtain ⟨rfl,rfl,rfl,rfl,rfl⟩:=hc;exact wpIn_skip ⟨σ,rfl,hd,T,Went.refl H⟩
      | label l=>simp only [code,Option.some.injEq,CdR.mk.injEq] at hc;obtain ⟨rfl,rfl,rfl,rfl,rfl⟩:=hc;exact wpIn_label ⟨σ,rfl,hd,T,Went.refl H⟩
      | ret=>simp only [code,Option.some.injEq,CdR.mk.injEq] at hc;obtain ⟨rfl,rfl,rfl,rfl,rfl⟩:=hc;exact wpIn_ret ⟨σ,rfl,hd,T,Went.refl H⟩
      | exit id=>simp only [code,Option.some.injEq,CdR.mk.injEq] at hc;obtain ⟨rfl,rfl,rfl,rfl,rfl⟩:=hc;exact wpIn_exit ⟨σ,rfl,hd,T,Went.refl H⟩
      | region id ops draw =>
        cases draw with
        | false =>
          unfold code at hc
          simp only at hc
          cases ed:doOps P (callE P sm n) ops nt ops.toList tm h c with
          | some r =>
            obtain ⟨e1,tm1,h1,c1⟩:=r
            simp only [ed,Option.some.injEq,CdR.mk.injEq] at hc
            obtain ⟨rfl,rfl,rfl,rfl,rfl⟩:=hc
            exact region_ok ihF hn ed H T hd
          | none =>
            simp only [ed] at hc
            cases ro with
            | some l=>simp at hc
            | none =>
              have hr:ro'=none:=hr
              subst hr
              dsimp only at hc
              split at hc
              · cases hc
              · rename_i l f args hs
                split at hc
                · cases hc
                · rename_i e1 tm1 h1 c1 ed1
                  cases eo:(okO P f && args.all (okO P)) with
                  | false=>simp [eo] at hc
                  | true =>
                    simp only [eo,cond_true] at hc
                    split at hc
                    · rename_i g first capt ef
                      rw [fAVs_eq] at hc
                      simp only [Option.some.injEq,CdR.mk.injEq] at hc
                      obtain ⟨rfl,rfl,rfl,rfl,rfl⟩:=hc
                      exact defer_ok ihF hn hs ed1 eo ef H T hd
                    · cases hc
        | true =>
          unfold code at hc
          simp only at hc
          cases ep:plan P ops with
          | none=>simp [ep] at hc
          | some l =>
            simp only [ep] at hc
            split at hc
            · rename_i e1 tm1 h1 c1 ed
              simp only [Option.some.injEq,CdR.mk.injEq] at hc
              obtain ⟨rfl,rfl,rfl,rfl,rfl⟩:=hc
              exact draw_region_ok hm ihF hn ep ed H T hd
            · cases hc
      | seq x y =>
        simp only [code] at hc
        cases ex:code P sm n x ro nt tm ds h c with
        | none=>simp [ex] at hc
        | some r =>
          obtain ⟨e1,tm1,ds1,h1,c1⟩:=r
          refine wpIn_seq (wpIn_mono (ihC x ro ro' nt tm ds h c e1 tm1 ds1 h1 c1 hn ex σ w a H T hd hr) ?_)
          rintro e2 a' w' ⟨σ1,rfl,d1,T1,W1⟩
          cases e1 with
          | norm =>
            simp only [ex] at hc
            refine wpIn_mono (ihC y ro ro' nt tm1 ds1 h1 c1 e tm' ds' h' c' hn hc σ1 w' a' W1.rel T1 d1 (hr.ext W1.ext)) ?_
            intro e3 a3 w3 q
            exact PostC.after W1 q
          | exit id=>simp only [ex,Option.some.injEq,CdR.mk.injEq] at hc;obtain ⟨rfl,rfl,rfl,rfl,rfl⟩:=hc;exact ⟨σ1,rfl,d1,T1,W1⟩
          | ret=>simp only [ex,Option.some.injEq,CdR.mk.injEq] at hc;obtain ⟨rfl,rfl,rfl,rfl,rfl⟩:=hc;exact ⟨σ1,rfl,d1,T1,W1⟩
      | cond x y z =>
        simp only [code] at hc
        have ev:∀ b,evO tm x = .bool b→a.eval x = .bool b:=by
          intro b hb
          have:conc σ η (evO tm x)=some (a.eval x):=by
            refine ev_ok (P:=P) H.glob ?_ fun t _=>T.val t
            cases x with
            | tmp t=>rfl
            | const v =>
              rw [evO_const] at hb
              simp only [okO]
              cases eo:ofV v with
              | none=>simp [eo,uv] at hb
              | some q=>rfl
            | global g=>simp [evO] at hb
            | func f=>simp [evO] at hb
          rw [hb,conc_bool] at this
          exact this
        split at hc
        · rename_i eb;exact wpIn_cond_true (ev true eb) (ihC y ro ro' nt tm ds h c e tm' ds' h' c' hn hc σ w a H T hd hr)
        · rename_i eb;exact wpIn_cond_false (ev false eb) (ihC z ro ro' nt tm ds h c e tm' ds' h' c' hn hc σ w a H T hd hr)
        · cases hc
      | block id b =>
        simp only [code] at hc
        cases eb:code P sm n b ro nt tm ds h c with
        | none=>simp [eb] at hc
        | some r =>
          obtain ⟨e1,tm1,ds1,h1,c1⟩:=r
          refine wpIn_block (wpIn_mono (ihC b ro ro' nt tm ds h c e1 tm1 ds1 h1 c1 hn eb σ w a H T hd hr) ?_)
          rintro e2 a' w' ⟨σ1,rfl,d1,T1,W1⟩
          cases e1 with
          | norm=>simp only [eb,Option.some.injEq,CdR.mk.injEq] at hc;obtain ⟨rfl,rfl,rfl,rfl,rfl⟩:=hc;exact ⟨σ1,rfl,d1,T1,W1⟩
          | exit id' =>
            simp only [eb] at hc
            cases eq:Nat.beq id id' with
            | true =>
              simp only [eq,cond_true,Option.some.injEq,CdR.mk.injEq] at hc
              obtain ⟨rfl,rfl,rfl,rfl,rfl⟩:=hc
              have:=Nat.eq_of_beq_eq_true eq
              subst this
              show Exit.inBlock id _ (.exit id) a' w'
              simp only [Exit.inBlock,if_true]
              exact ⟨σ1,rfl,d1,T1,W1⟩
            | false =>
              simp only [eq,cond_false,Option.some.injEq,CdR.mk.injEq] at hc
              obtain ⟨rfl,rfl,rfl,rfl,rfl⟩:=hc
              have hne:¬ (id'=id):=fun q=>by subst q;simp at eq
              show Exit.inBlock id _ (.exit id') a' w'
              simp only [Exit.inBlock,if_neg hne]
              exact ⟨σ1,rfl,d1,T1,W1⟩
          | ret=>simp only [eb,Option.some.injEq,CdR.mk.injEq] at hc;obtain ⟨rfl,rfl,rfl,rfl,rfl⟩:=hc;exact ⟨σ1,rfl,d1,T1,W1⟩
      | loop b=>exact wpIn_loop_rounds (n+1) (loops b ro ro' nt tm ds h c e tm' ds' h' c' hn hc σ w a H T hd hr)
      | scope b =>
        simp only [code] at hc
        refine wpIn_scope (wpIn_mono (ihC b ro ro' nt tm ds h c e tm' ds' h' c' hn hc σ w a H T hd hr) ?_)
        rintro e2 a' w' ⟨σ1,rfl,d1,T1,W1⟩
        cases e <;> exact ⟨σ1,rfl,d1,T1,W1⟩
      | rangeFunc f ps x y =>
        simp only [code] at hc
        cases eo:okO P f with
        | false=>simp [eo] at hc
        | true =>
          simp only [eo,cond_true] at hc
          split at hc
          · rename_i g first capt ef
            cases hbd:hasBody P g with
            | false=>simp [hbd] at hc
            | true =>
              simp only [hbd,cond_true] at hc
              refine wpIn_rangeFunc fun fn _=>?_
              obtain ⟨dn,ds1,h1,l,hc,hgo⟩:=enterL_ok hc H hr T hd hn fn ps x y
              rw [fNats_eq] at hc
              cases hbl:(Nat.ble l bigN && Nat.ble nt bigN) with
              | false=>simp [hbl] at hc
              | true =>
                simp only [hbl,cond_true,setK_eq,fNat_eq] at hc
                rw [Bool.and_eq_true] at hbl
                obtain ⟨L,mark,w1,σ1,r1,⟨sl,hl1⟩,d1,W1⟩:=hgo (Nat.le_of_ble_eq_true hbl.1)
                split at hc
                · rename_i v h2 c2 ecall
                  -- the call
                  have hfv:=ev_ok (a:=a) W1.rel.glob eo (fun t _=>conc_ext W1.ext (T.val t))
                  rw [ef] at hfv
                  obtain ⟨vf,vc,k1,k2,hv⟩:=conc_func.1 hfv
                  have hargs:concs σ1 η (first++(.yld l::capt))=some (vf++(.func (.yield L) #[] #[]::vc)):=concs_append k1 (concs_cons.2 ⟨_,_,conc_yld.2 ⟨_,hl1,rfl⟩,k2,rfl⟩)
                  have hcall:=ihF (.fn g) _ _ _ v h2 c2 ecall σ1 w1 _ W1.rel hargs
                  have henter:∃ fnn b,P.funcs[g]? = some fnn∧fnn.body=some b:=by
                    unfold hasBody at hbd
                    cases e1:P.funcs[g]? with
                    | none=>simp [e1] at hbd
                    | some fnn =>
                      simp only [e1] at hbd
                      cases e2:fnn.body with
                      | none=>simp [e2] at hbd
                      | some b=>exact ⟨fnn,b,rfl,e2⟩
                  obtain ⟨fnn,bb,e1,e2⟩:=henter
                  have hent:=enters hng e1 e2 (vf++(.func (.yield L) #[] #[]::vc)).toArray w1
                  refine ⟨L,mark,w1,{ target:=.fn (.func g) vc.toArray,args:=vf.toArray++#[.func (.yield L) #[] #[]] },w1,g,(vf++(.func (.yield L) #[] #[]::vc)).toArray,w1,r1,?_,fun _ _=>trivial,?_,fun q=>(by cases q),?_⟩
                  · have hmap : Array.map a.eval #[Operand.const (.func (.yield L) #[] #[])] = #[.func (.yield L) #[] #[]] := by simp; rfl
                    simp only [resolve,hv,Deferred.ofValue,Sem.run_pure,hmap]
                  · show (callFunc g ((vf.toArray ++ #[.func (.yield L) #[] #[]]) ++ vc.toArray)).run P w1 = _
                    have:(vf.toArray++#[.func (.yield L) #[] #[]])++vc.toArray=(vf++(.func (.yield L) #[] #[]::vc)).toArray:=by
                      apply Array.toList_inj.1;simp
                    rw [this]
                    exact hent
                  · have hcin:CallsIn Fence.wide 0 P g (vf++(.func (.yield L) #[] #[]::vc)).toArray w1 (Done P η σ1 (h1.set deep l (some (.loop 0 none tm nt ps.toList x y dn))) (l+1) w1 v h2 c2):=by
                      rcases hcall with ⟨_,q⟩ | ⟨u,w',q,_⟩
                      · exact q
                      · rw [hent] at q;cases q
                    refine CallsIn.mono (F:=Fr ro') hcin ?_
                    rintro ee w3 ⟨u,σ2,rfl,_,W2⟩
                    obtain ⟨st0,pend0,tm0,nt0,ps0,a0,b0,dn0,g1,g2,hc⟩:=setL_ok hc
                    cases hst:Nat.beq st0 1 with
                    | true=>simp [hst] at hc
                    | false =>
                      simp only [hst,cond_false] at hc
                      obtain ⟨r,q1,q2,q3,_,_,_,_,_,_,qput⟩:=W2.rel.loopAt g1 (W2.ext _ _ hl1)
                      have hnb:r.state≠.busy:=by
                        rw [q2]
                        intro q
                        unfold lState at q
                        split at q <;> first | (cases q;done) | (simp at hst)
                      have hW:=qput 3 pend0 g2
                      have hend:=run_endLoop (P:=P) q1 hnb
                      have hw4:w3.putObj L (.loop { r with state:=.exhausted })=w3.putObj L (.loop { r with state:=lState 3,pending:=pend0 }):=by rw [← q3];rfl
                      rw [hw4] at hend
                      have W3:Went P η σ h c w σ2 _ _ _:=(W1.trans W2).trans hW
                      have T3:TR σ2 η nt tm a.tmps:=(T.ext W1.ext).ext W2.ext
                      have d3:=d1.ext W2.ext
                      refine ⟨r.pending,_,hend,?_⟩
                      rw [q3]
                      cases pend0 with
                      | none =>
                        simp only [Option.some.injEq,CdR.mk.injEq] at hc
                        obtain ⟨rfl,rfl,rfl,rfl,rfl⟩:=hc
                        exact ⟨σ2,rfl,d3,T3,W3⟩
                      | some cd =>
                        simp only at hc
                        refine wpIn_mono (ihC cd ro ro' nt tm ds1 _ c2 e tm' ds' h' c' hn hc σ2 _ { a with defers:=mark++a.defers } W3.rel T3 d3 (hr.ext W3.ext)) ?_
                        intro e3 a3 w4 q
                        exact PostC.after W3 q
                · cases hc
          · cases hc
      | goto l=>simp [code] at hc
      | refuse s=>simp [code] at hc
    · intro t args h c v h' c' hc σ w avs H ha
      cases t with
      | fn f =>
        show Leads P f avs.toArray w (Done P η σ h c w v h' c')
        simp only [callE] at hc
        cases e1:sm.val f with
        | some g =>
          simp only [e1] at hc
          cases e2:g args with
          | none=>simp [e2] at hc
          | some v' =>
            simp only [e2,Option.some.injEq,CRes.mk.injEq] at hc
            obtain ⟨rfl,rfl,rfl⟩:=hc
            refine (hsm.val f g e1 args v' e2 σ avs w ha).mono ?_
            rintro e w' ⟨u,rfl,q1,q2⟩
            exact ⟨u,σ,rfl,q1,Went.kept' H q2⟩
        | none =>
          simp only [e1] at hc
          cases e2:sm.full f with
          | some g =>
            simp only [e2] at hc
            exact hsm.full f g e2 args h c v h' c' hc σ w avs H ha
          | none =>
            simp only [e2] at hc
            cases e3:P.funcs[f]? with
            | none=>simp [e3] at hc
            | some fn =>
              simp only [e3] at hc
              cases e4:fn.body with
              | none=>simp [e4] at hc
              | some b =>
                simp only [e4] at hc
                cases e5:(Nat.ble args.length fn.ntmps && Nat.ble fn.ntmps bigN) with
                | false=>simp [e5] at hc
                | true =>
                  simp only [e5,cond_true,initT_eq] at hc
                  rw [Bool.and_eq_true] at e5
                  have l1:=Nat.le_of_ble_eq_true e5.1
                  have l2:=Nat.le_of_ble_eq_true e5.2
                  refine .inl ⟨enters hng e3 e4 _ w,callsIn_of_wp_marks e3 e4 trivial ?_⟩
                  cases e6:code P sm n b none fn.ntmps (initF 0 args .nil) [] h c with
                  | none=>simp [e6] at hc
                  | some r =>
                    obtain ⟨ex,tm1,ds1,h1,c1⟩:=r
                    simp only [e6] at hc
                    have T0:=initTR (nt:=fn.ntmps) ha l1 l2
                    refine wpIn_mono (ihC b none none fn.ntmps _ [] h c ex tm1 ds1 h1 c1 l2 e6 σ w { tmps:=avs.toArray++Array.replicate (fn.ntmps - avs.toArray.size) undef,defers:=[] } H T0 trivial rfl) ?_
                    rintro e2 a' w' ⟨σ1,rfl,d1,T1,W1⟩
                    have fin:unw (callD P sm n) ds1 h1 c1 (fun h c=>match resV tm1 h P fn.results.toList with
                        | some vs=>fAV (oneV vs) fun v=>some (CRes.mk v h c)
                        | none=>none)=some (.mk v h' c')→LeavesInM Fence.wide 0 P fn a'.tmps (Done P η σ h c w v h' c') a'.defers .returning w':=by
                      intro hu
                      refine unw_ok ihD hu W1.rel d1 fun σ2 h2 c2 w2 W2 hk=>?_
                      obtain ⟨rfl,rfl,u,u1,u2⟩:=res_ok W2.rel (T1.ext W2.ext) hk
                      exact ⟨u,u1,u,σ2,rfl,u2,W1.trans W2⟩
                    cases ex with
                    | exit id=>simp at hc
                    | norm=>exact fin hc
                    | ret=>exact fin hc
      | yld l =>
        simp only [callE] at hc
        show ∀ x,σ l=some x→_
        intro x hx
        split at hc
        · rename_i st pend tm nt ps ca cb dn hg
          obtain ⟨r,q1,q2,q3,qT,qn,q4,q5,q6,q7,_⟩:=H.loopAt hg hx
          obtain ⟨tm1,hc,hlen,T1⟩:=setPs_ok qn hc qT ha
          have hsz:avs.toArray.size=r.params.size:=by
            have:=congrArg List.length q4
            simp only [Array.length_toList] at this
            simp [hlen,this]
          refine ⟨r.fn,_,r.assign,r.body,run_yield q1 hsz,roundIn_of_wpIn trivial ?_⟩
          have hfold:(r.params.zip avs.toArray).foldl (fun tmps (t,a)=>tmps.setIfInBounds t a) r.tmps=(ps.zip avs).foldl (fun ts x=>ts.setIfInBounds x.1 x.2) r.tmps:=by
            rw [← q4,← Array.foldl_toList]
            simp
          rw [hfold,q5,q6]
          split at hc
          · rename_i e1 tm2 ds2 h2 c2 ea
            split at hc
            · refine wpIn_mono (ihC ca (some l) (some x.blk) nt tm1 [] h c .norm tm2 [] h2 c2 qn ea σ w { tmps := _, defers := [] } H T1 trivial ⟨x, hx, rfl⟩) ?_
              rintro ex a2 w2 ⟨σ2,rfl,d2,T2,W2⟩
              obtain ⟨st0,pend0,tm0,nt0,ps0,a0,b0,dn0,g1,g2,hc⟩:=setL_ok hc
              cases hst:Nat.beq st0 0 with
              | false=>simp [hst] at hc
              | true =>
                simp only [hst,cond_true] at hc
                have:=Nat.eq_of_beq_eq_true hst
                subst this
                obtain ⟨r2,p1,p2,p3,_,_,_,_,_,_,pput⟩:=W2.rel.loopAt g1 (W2.ext _ _ hx)
                have hbeg:=run_beginRound (P:=P) p1 p2
                have hWb:=pput 1 pend0 g2
                have hw3:w2.putObj x.blk (.loop { r2 with state:=.busy })=w2.putObj x.blk (.loop { r2 with state:=lState 1,pending:=pend0 }):=by rw [← p3];rfl
                rw [hw3] at hbeg
                refine ⟨_,hbeg,?_⟩
                split at hc
                · rename_i e3 tm3 ds3 h3 c3 eb
                  refine wpIn_mono (ihC cb (some l) (some x.blk) nt tm2 [] _ c2 e3 tm3 ds3 h3 c3 qn eb σ2 _ a2 hWb.rel T2 d2 ⟨x,W2.ext _ _ hx,rfl⟩) ?_
                  rintro ex a3 w3 ⟨σ3,rfl,d3,T3,W3⟩
                  obtain ⟨st1,pend1,tm4,nt1,ps1,a1,b1,dn1,g3,g4,hc⟩:=setL_ok hc
                  obtain ⟨r3,s1,s2,s3,_,_,_,_,_,_,sput⟩:=W3.rel.loopAt g3 (W3.ext _ _ (W2.ext _ _ hx))
                  have hend:=run_endRound (P:=P) (jumpOf e3) s1
                  have hWe:=sput (stOf e3) (jumpOf e3) g4
                  have hst3:(if (jumpOf e3).isNone then LoopState.ready else LoopState.done)=lState (stOf e3):=by cases e3 <;> rfl
                  rw [hst3] at hend
                  simp only [Option.getD_some,Option.some.injEq,CRes.mk.injEq] at hc
                  obtain ⟨rfl,rfl,rfl⟩:=hc
                  refine jump_post ⟨_,_,hend,_,σ3,rfl,?_,((W2.trans hWb).trans W3).trans hWe⟩
                  rw [conc_bool]
                  cases e3 <;> rfl
                · cases hc
            · cases hc
          · cases hc
        · cases hc
    · intro f args h c v h' c' hc σ w avs u H ha
      simp only [callD] at hc
      cases e3:P.funcs[f]? with
      | none=>simp [e3] at hc
      | some fn =>
        simp only [e3] at hc
        cases e4:fn.body with
        | none=>simp [e4] at hc
        | some b =>
          simp only [e4] at hc
          cases e5:(Nat.ble args.length fn.ntmps && Nat.ble fn.ntmps bigN) with
          | false=>simp [e5] at hc
          | true =>
            simp only [e5,cond_true,initT_eq] at hc
            rw [Bool.and_eq_true] at e5
            have l1:=Nat.le_of_ble_eq_true e5.1
            have l2:=Nat.le_of_ble_eq_true e5.2
            refine ⟨enters hng e3 e4 _ w,callsDIn_of_wp e3 e4 trivial ?_⟩
            cases e6:code P sm n b none fn.ntmps (initF 0 args .nil) [] h c with
            | none=>simp [e6] at hc
            | some r =>
              obtain ⟨ex,tm1,ds1,h1,c1⟩:=r
              simp only [e6] at hc
              have T0:=initTR (nt:=fn.ntmps) ha l1 l2
              refine wpIn_mono (ihC b none none fn.ntmps _ [] h c ex tm1 ds1 h1 c1 l2 e6 σ w { tmps:=avs.toArray++Array.replicate (fn.ntmps - avs.toArray.size) undef,defers:=[] } H T0 trivial rfl) ?_
              rintro e2 a' w' ⟨σ1,rfl,d1,T1,W1⟩
              have fin:ds1=[]→(match resV tm1 h1 P fn.results.toList with
                  | some vs=>fAV (oneV vs) fun v=>some (CRes.mk v h1 c1)
                  | none=>none)=some (.mk v h' c')→a'.defers=[]∧∃ u,(results fn a'.tmps).run P w' = .ok u w'∧Done P η σ h c w v h' c' (.returned u) w':=by
                intro hds hq
                subst hds
                obtain ⟨rfl,rfl,u,u1,u2⟩:=res_ok W1.rel T1 hq
                refine ⟨?_,u,u1,u,σ1,rfl,u2,W1⟩
                cases hdf:a'.defers with
                | nil=>rfl
                | cons d D=>rw [hdf] at d1;exact d1.elim
              cases ex with
              | exit id=>simp at hc
              | norm =>
                cases ds1 with
                | nil=>exact fin rfl hc
                | cons d D=>simp at hc
              | ret =>
                cases ds1 with
                | nil=>exact fin rfl hc
                | cons d D=>simp at hc

theorem callE_ok {sm:Sm}(hm:P.follows .mixedOrders=true)(hng:NoGo P=true)(hsm:SmOk P η sm)(n:Nat):CallOk P η (callE P sm n):=(code_all hm hng hsm n).2.2.1
end
/- An evaluator of closed runs: a new object in whatever new block. -/
section
variable {σ σ':Sig}{η:Env}{P:Program}

theorem fresh_ok {h:Heap}{c:Nat}{w w':World}{o:AObj}{l:Loc}(H:HR P σ η h c w)(hc:c≤bigN)(hg:w.heap.size≤l.blk)(ho0:l.off=0)(hb:∀ k,k<w.heap.size→w'.heap[k]? = w.heap[k]?)(hsz:w.heap.size≤w'.heap.size)(e1:w'.os=w.os)(e2:w'.tape=w.tape)(e3:w'.output=w.output)
    (ho:ObjR P (upd σ c l) η w' l o):Went P η σ h c w (upd σ c l) (h.set deep c (some o)) (c+1) w':=by
  have hx:=ext_upd (l:=l) (H.new c (Nat.le_refl _))
  have old:∀ n,(h.get n).isSome=true→n≠c∧∃ l,σ n=some l∧l.blk<w.heap.size:=by
    intro n hn
    cases e:h.get n with
    | none=>rw [e] at hn;cases hn
    | some q =>
      obtain ⟨l,hl,ob⟩:=H.obj n q e
      refine ⟨fun k=>?_,l,hl,ob.lt⟩
      subst k;rw [H.new n (Nat.le_refl _)] at hl;cases hl
  refine ⟨hx,⟨fun m q hm=>?_,fun a b x y ha hb hxa hxb e=>?_,fun n hn=>?_,fun g hg=>?_⟩,⟨e1,e2,e3,hsz,fun k hk _=>hb k hk⟩,fun b hb ⟨m,x,hm,hmx,e⟩=>?_,fun m x hm hmx=>?_⟩
  · rw [get_put hc] at hm
    split at hm
    · rename_i e;subst e;cases hm;exact ⟨_,upd_same _ _ _,ho⟩
    · obtain ⟨x, hx1, ob⟩ := H.obj m q hm
      exact ⟨x,hx m x hx1,(ob.ext hx).block (hb _ ob.lt)⟩
  · rw [get_put hc] at ha hb
    by_cases ea:a=c <;> by_cases eb:b=c
    · rw [ea,eb]
    · rw [if_neg eb] at hb
      obtain ⟨_,l2,hl,hlt⟩:=old b hb
      rw [ea,upd_same] at hxa;rw [upd_other eb,hl] at hxb
      cases hxa;cases hxb;omega
    · rw [if_neg ea] at ha
      obtain ⟨_,l2,hl,hlt⟩:=old a ha
      rw [eb,upd_same] at hxb;rw [upd_other ea,hl] at hxa
      cases hxa;cases hxb;omega
    · rw [if_neg ea] at ha; rw [if_neg eb] at hb
      rw [upd_other ea] at hxa;rw [upd_other eb] at hxb
      exact H.inj a b x y ha hb hxa hxb e
  · rw [upd_other (by omega)];exact H.new n (by omega)
  · obtain ⟨s,hs⟩:=H.glob g hg;exact ⟨s,hx _ _ hs⟩
  · rw [get_put hc] at hm
    by_cases em:m=c
    · rw [em,upd_same] at hmx;cases hmx;omega
    · rw [if_neg em] at hm;rw [upd_other em] at hmx;exact ⟨m,x,hm,hmx,e⟩
  · rw [get_put hc] at hm
    by_cases em:m=c
    · rw [em,upd_same] at hmx;cases hmx;exact .inl ho0
    · rw [if_neg em] at hm;rw [upd_other em] at hmx;exact .inr ⟨m,x,hm,hmx,rfl⟩

/-- Nothing of what a name stands for has turned. -/
theorem Went.same {h:Heap}{c:Nat}{w w':World}(H:HR P σ η h c w)(hb:∀ k,k<w.heap.size→w'.heap[k]? = w.heap[k]?)(hsz:w.heap.size≤w'.heap.size)(e1:w'.os=w.os)(e2:w'.tape=w.tape)(e3:w'.output=w.output):Went P η σ h c w σ h c w':=
  Went.kept' H ⟨e1,e2,e3,hsz,fun k hk _=>hb k hk⟩

/-! ### names in order -/
def insN (x:List Nat):List (List Nat)→List (List Nat)
  | []=>[x]
  | y::l=>bif nsLt x y then x::y::l else y::insN x l
def sortN:List (List Nat)→List (List Nat)
  | []=>[]
  | x::l=>insN x (sortN l)
def memNs (x:List Nat):List (List Nat)→Bool
  | []=>false
  | y::l=>bif nsEq x y then true else memNs x l
def apartNs:List (List Nat)→Bool
  | []=>true
  | x::l=>bif memNs x l then false else apartNs l
def keysOf:List (AV × AV × Nat)→Option (List (List Nat))
  | []=>some []
  | (k, _, _) :: l => match k with
    | .str s=>bif Nat.ble s.length 1000000 then (keysOf l).map (s :: ·) else none
    | _=>none
def bornOk (cl:Nat):List (AV × AV × Nat)→Bool
  | []=>true
  | (_,_,b)::l=>Nat.ble (b+1) cl && bornOk cl l
def borns:List (AV × AV × Nat)→List Nat
  | []=>[]
  | (_,_,b)::l=>b::borns l
end
end Go.Eng
namespace Go.Proofs.YthknocapablpaaaGreatDoor
/- Rows of texts in order (plain Lean). -/
section
open Go.Eng

def insU (x:List UInt8):List (List UInt8)→List (List UInt8)
 | []=>[x]
 | y::l=>bif decide (x≤y) then x::y::l else y::insU x l
def sortU:List (List UInt8)→List (List UInt8)
 | []=>[]
 | x::l=>insU x (sortU l)

theorem le_tot (a b:List UInt8):a≤b∨b≤a:=List.le_total a b
theorem le_tr {a b c:List UInt8}(h:a≤b)(k:b≤c):a≤c:=List.le_trans h k
theorem le_anti {a b:List UInt8}(h:a≤b)(k:b≤a):a=b:=List.le_antisymm h k

theorem insU_perm (x:List UInt8):∀ l,(insU x l).Perm (x::l)
 | []=>List.Perm.refl _
 | y::l=>by
  unfold insU
  cases decide (x≤y) with
  | true=>exact List.Perm.refl _
  | false=>exact ((insU_perm x l).cons y).trans (List.Perm.swap x y l)
theorem sortU_perm:∀ l,(sortU l).Perm l
 | []=>List.Perm.refl _
 | x::l=>(insU_perm x _).trans ((sortU_perm l).cons x)
theorem insU_sorted (x:List UInt8):∀ l,l.Pairwise (· ≤ ·)→(insU x l).Pairwise (· ≤ ·)
 | [],_=>by simp [insU]
 | y::l,h=>by
  unfold insU
  rw [List.pairwise_cons] at h
  by_cases q:x≤y
  ·simp only [q, decide_true, cond_true]
   refine List.pairwise_cons.2 ⟨fun z hz=>?_,List.pairwise_cons.2 h⟩
   rcases List.mem_cons.1 hz with rfl | hz
   ·exact q
   ·exact le_tr q (h.1 z hz)
  ·simp only [q, decide_false, cond_false]
   refine List.pairwise_cons.2 ⟨fun z hz=>?_,insU_sorted x l h.2⟩
   rcases List.mem_cons.1 ((insU_perm x l).mem_iff.1 hz) with rfl | hz
   ·exact (le_tot _ _).resolve_left q
   ·exact h.1 z hz
theorem sortU_sorted:∀ l,(sortU l).Pairwise (· ≤ ·)
 | []=>List.Pairwise.nil
 | x::l=>insU_sorted x _ (sortU_sorted l)
theorem merge_eq {a b:List (List UInt8)}(h:a.Perm b):a.mergeSort (fun x y=>decide (x≤y))=sortU b:=by
 refine List.Perm.eq_of_pairwise (le:=(· ≤ ·)) (fun x y _ _=>le_anti) ?_ (sortU_sorted b) ((List.mergeSort_perm _ _).trans (h.trans (sortU_perm b).symm))
 have:=List.pairwise_mergeSort (le:=fun x y:List UInt8=>decide (x≤y)) (fun a b c h k=>by simp only [decide_eq_true_eq] at *;exact le_tr h k) (fun a b=>by simpa using le_tot a b) a
 exact this.imp fun h=>by simpa using h
end
end Go.Proofs.YthknocapablpaaaGreatDoor
namespace Go.Eng
/- An evaluator of closed runs: runs cut into pieces, heaps made small. -/
section
variable {σ σ':Sig}{η:Env}{P:Program}

noncomputable section
/-- The heap with the objects of some names alone. -/
def keepOnly {β:Type}(h:Heap):List Nat→Heap→(Heap→Option β)→Option β
  | [],r,k=>k r
  | n::l,r,k=>bif Nat.ble n bigN then r.setK deep n (h.get n) fun r=>keepOnly h l r k else none
def flat:Code→List Code→List Code
  | .seq a b,l=>flat a (flat b l)
  | c,l=>c::l
/-- Codes one behind the other, in a function's own frame. -/
def codeL (P:Program)(sm:Sm)(n nt:Nat):List Code→Tmps→List Dfr→Heap→Nat→Option CdR
  | [],tm,ds,h,c=>some (.mk .norm tm ds h c)
  | x :: l, tm, ds, h, c => match code P sm n x none nt tm ds h c with
    | some (.mk .norm tm ds h c)=>codeL P sm n nt l tm ds h c
    | r=>r
/-- The same, with a small heap. -/
def codeK (P:Program)(sm:Sm)(n nt:Nat)(keep:List Nat)(l:List Code)(tm:Tmps)(ds:List Dfr)(h:Heap)(c:Nat):Option CdR:=match codeL P sm n nt l tm ds h c with
  | some (.mk e tm ds h c)=>keepOnly h keep .nil fun h=>some (.mk e tm ds h c)
  | none=>none

/-! ### whether two states are the same -/
def esEq:List (AV × AV × Nat)→List (AV × AV × Nat)→Bool
  | [],[]=>true
  | (a,b,n)::l,(a',b',n')::l'=>avEq a a' && avEq b b' && Nat.beq n n' && esEq l l'
  | _,_=>false
def objEq:AObj→AObj→Bool
  | .cells t cs,.cells t' cs'=>Nat.beq t t' && avsEq cs cs'
  | .frz t cs,.frz t' cs'=>Nat.beq t t' && avsEq cs cs'
  | .ro t cs,.ro t' cs'=>Nat.beq t t' && avsEq cs cs'
  | .map es c,.map es' c'=>Nat.beq c c' && esEq es es'
  | .dfr,.dfr=>true
  | _,_=>false
def optEq {α:Type}(f:α→α→Bool):Option α→Option α→Bool
  | none,none=>true
  | some a,some b=>f a b
  | _,_=>false
def trEq {α:Type}(f:α→α→Bool):Tr α→Tr α→Bool
  | .nil,.nil=>true
  | .node v l r,.node v' l' r'=>optEq f v v' && trEq f l l' && trEq f r r'
  | _,_=>false
def dfrEq:Dfr→Dfr→Bool
  | .mark n,.mark m=>Nat.beq n m
  | .call f as,.call g bs=>Nat.beq f g && avsEq as bs
  | _,_=>false
def dsEq:List Dfr→List Dfr→Bool
  | [],[]=>true
  | a::l,b::l'=>dfrEq a b && dsEq l l'
  | _,_=>false
def exEq:Ex→Ex→Bool
  | .norm,.norm=>true
  | .ret,.ret=>true
  | .exit a,.exit b=>Nat.beq a b
  | _,_=>false
def cdEq:Option CdR→CdR→Bool
  | some (.mk e tm ds h c),.mk e' tm' ds' h' c'=>exEq e e' && trEq avEq tm tm' && dsEq ds ds' && trEq objEq h h' && Nat.beq c c'
  | none,_=>false
end

theorem esEq_eq:∀ {a b:List (AV × AV × Nat)},esEq a b=true→a=b
  | [],[],_=>rfl
  | (a, b, n) :: l, (a', b', n') :: l', h => by
    simp only [esEq,Bool.and_eq_true] at h
    rw [avEq_eq h.1.1.1,avEq_eq h.1.1.2,Nat.eq_of_beq_eq_true h.1.2,esEq_eq h.2]
  | [],_::_,h=>by simp [esEq] at h
  | (_,_,_)::_,[],h=>by simp [esEq] at h
theorem objEq_eq {a b:AObj}(h:objEq a b=true):a=b:=by
  cases a <;> cases b <;> simp only [objEq,Bool.and_eq_true,Bool.false_eq_true] at h <;> first | rfl | skip
  · rw [Nat.eq_of_beq_eq_true h.1,avsEq_eq h.2]
  · rw [Nat.eq_of_beq_eq_true h.1,esEq_eq h.2]
  · rw [Nat.eq_of_beq_eq_true h.1,avsEq_eq h.2]
  · rw [Nat.eq_of_beq_eq_true h.1,avsEq_eq h.2]
theorem trEq_eq {α:Type}{f:α→α→Bool}(hf:∀ a b,f a b=true→a=b):∀ {s t:Tr α},trEq f s t=true→s=t
  | .nil,.nil,_=>rfl
  | .node v l r, .node v' l' r', h => by
    simp only [trEq,Bool.and_eq_true] at h
    rw [trEq_eq hf h.1.2,trEq_eq hf h.2]
    have h1:=h.1.1
    cases v <;> cases v' <;> simp only [optEq,Bool.false_eq_true] at h1
    · rfl
    · rw [hf _ _ h1]
  | .nil,.node _ _ _,h=>by simp [trEq] at h
  | .node _ _ _,.nil,h=>by simp [trEq] at h
theorem dsEq_eq:∀ {a b:List Dfr},dsEq a b=true→a=b
  | [],[],_=>rfl
  | a :: l, b :: l', h => by
    simp only [dsEq,Bool.and_eq_true] at h
    rw [dsEq_eq h.2]
    have h1:=h.1
    cases a <;> cases b <;> simp only [dfrEq,Bool.and_eq_true,Bool.false_eq_true] at h1
    · rw [Nat.eq_of_beq_eq_true h1]
    · rw [Nat.eq_of_beq_eq_true h1.1,avsEq_eq h1.2]
  | [],_::_,h=>by simp [dsEq] at h
  | _::_,[],h=>by simp [dsEq] at h
theorem cdEq_eq {a:Option CdR}{b:CdR}(h:cdEq a b=true):a=some b:=by
  cases a with
  | none=>cases h
  | some x =>
    obtain ⟨e,tm,ds,hp,c⟩:=x
    obtain ⟨e',tm',ds',h',c'⟩:=b
    simp only [cdEq,Bool.and_eq_true] at h
    obtain ⟨⟨⟨⟨h1,h2⟩,h3⟩,h4⟩,h5⟩:=h
    rw [trEq_eq (fun a b=>avEq_eq) h2,dsEq_eq h3,trEq_eq (fun a b=>objEq_eq) h4,Nat.eq_of_beq_eq_true h5]
    cases e <;> cases e' <;> simp only [exEq,Bool.false_eq_true] at h1
    · rfl
    · rw [Nat.eq_of_beq_eq_true h1]
    · rfl

/-- A heap of which only some names are kept. -/
theorem keepOnly_ok {β:Type}{h:Heap}{c:Nat}{w:World}{k:Heap→Option β}{r:β}(H:HR P σ η h c w):∀ (l:List Nat)(g:Heap),(∀ n o,g.get n=some o→h.get n=some o)→keepOnly h l g k=some r→∃ g',k g'=some r∧Went P η σ h c w σ g' c w
  | [], g, hg, e => by
    refine ⟨g,e,Ext.refl _,⟨fun n o hn=>H.obj n o (hg n o hn),fun a b x y ha hb=>?_,H.new,H.glob⟩,Kept.refl _ _,fun b _ ⟨n,x,hn,hx,e⟩=>⟨n,x,?_,hx,e⟩,fun n x hn hx=>.inr ⟨n,x,?_,hx,rfl⟩⟩
    · have up:∀ m,(g.get m).isSome=true→(h.get m).isSome=true:=fun m hm=>by
        cases q:g.get m with
        | none=>rw [q] at hm;cases hm
        | some o=>rw [hg m o q];rfl
      exact H.inj a b x y (up a ha) (up b hb)
    · cases q : g.get n with
      | none=>rw [q] at hn;cases hn
      | some o=>rw [hg n o q];rfl
    · cases q : g.get n with
      | none=>rw [q] at hn;cases hn
      | some o=>rw [hg n o q];rfl
  | n :: l, g, hg, e => by
    simp only [keepOnly] at e
    cases hb:Nat.ble n bigN with
    | false=>simp [hb] at e
    | true =>
      simp only [hb,cond_true,setK_eq] at e
      refine keepOnly_ok H l _ (fun m o hm=>?_) e
      rw [get_put (Nat.le_of_ble_eq_true hb)] at hm
      split at hm
      · rename_i q;rw [q];exact hm
      · exact hg m o hm

/-! ### codes one behind the other -/
def wpL (P:Program)(Q:Exit→Act→World→Prop):List Code→Act→World→Prop
  | [],a,w=>Q .normal a w
  | c::l,a,w=>c.wp P (Exit.then (wpL P Q l) Q) a w
theorem wpL_mono {Q Q':Exit→Act→World→Prop}(hq:∀ e a w,Q e a w→Q' e a w):∀ {l:List Code}{a:Act}{w:World},wpL P Q l a w→wpL P Q' l a w
  | [],_,_,h=>hq _ _ _ h
  | c :: l, _, _, h => wp_mono h fun e a w q => by
    cases e <;> first | exact wpL_mono hq q | exact hq _ _ _ q
theorem wpL_append {Q:Exit→Act→World→Prop}:∀ {l m:List Code}{a:Act}{w:World},wpL P (Exit.then (wpL P Q m) Q) l a w→wpL P Q (l++m) a w
  | [],_,_,_,h=>h
  | c :: l, m, _, _, h => wp_mono h fun e a w q => by
    cases e <;> first | exact wpL_append q | exact q
theorem wpL_flat {Q:Exit→Act→World→Prop}:∀ {c:Code}{l:List Code}{a:Act}{w:World},wpL P Q (flat c l) a w→c.wp P (Exit.then (wpL P Q l) Q) a w
  | .seq x y, l, a, w, h => by
    refine wp_seq (wp_mono (wpL_flat (c:=x) h) ?_)
    intro e a w q
    cases e <;> first | exact wpL_flat (c:=y) q | exact q
  | .skip,_,_,_,h=>h
  | .region ..,_,_,_,h=>h
  | .cond ..,_,_,_,h=>h
  | .block ..,_,_,_,h=>h
  | .loop _,_,_,_,h=>h
  | .rangeFunc ..,_,_,_,h=>h
  | .exit _,_,_,_,h=>h
  | .scope _,_,_,_,h=>h
  | .label _,_,_,_,h=>h
  | .goto _,_,_,_,h=>h
  | .ret,_,_,_,h=>h
  | .refuse _,_,_,_,h=>h
theorem wp_flat {Q:Exit→Act→World→Prop}{c:Code}{a:Act}{w:World}(h:wpL P Q (flat c []) a w):c.wp P Q a w:=
  wp_mono (wpL_flat h) fun e a w q=>by cases e <;> exact q

theorem codeL_ok {sm:Sm}(hm:P.follows .mixedOrders=true)(hng:NoGo P=true)(hsm:SmOk P η sm)(n:Nat){nt:Nat}(hn:nt≤bigN):∀ {l:List Code}{tm tm':Tmps}{ds ds':List Dfr}{h h':Heap}{c c':Nat}{e:Ex},codeL P sm n nt l tm ds h c=some (.mk e tm' ds' h' c')→∀ {σ:Sig}{w:World}{a:Act},HR P σ η h c w→TR σ η nt tm a.tmps→DR σ η ds a.defers→wpL P (PostC P η σ h c w nt e tm' ds' h' c') l a w
  | [], tm, tm', ds, ds', h, h', c, c', e, he, σ, w, a, H, T, D => by
    simp only [codeL,Option.some.injEq,CdR.mk.injEq] at he
    obtain ⟨rfl,rfl,rfl,rfl,rfl⟩:=he
    exact ⟨σ,rfl,D,T,Went.refl H⟩
  | x :: l, tm, tm', ds, ds', h, h', c, c', e, he, σ, w, a, H, T, D => by
    simp only [codeL] at he
    cases ex:code P sm n x none nt tm ds h c with
    | none=>simp [ex] at he
    | some r =>
      obtain ⟨e1,tm1,ds1,h1,c1⟩:=r
      have:=wpIn_wide.1 ((code_all hm hng hsm n).1 x none none nt tm ds h c e1 tm1 ds1 h1 c1 hn ex σ w a H T D rfl)
      refine wp_mono this ?_
      rintro e2 a' w' ⟨σ1,rfl,d1,T1,W1⟩
      cases e1 with
      | norm =>
        simp only [ex] at he
        exact wpL_mono (fun _ _ _ q=>PostC.after W1 q) (codeL_ok hm hng hsm n hn he W1.rel T1 d1)
      | exit id=>simp only [ex,Option.some.injEq,CdR.mk.injEq] at he;obtain ⟨rfl,rfl,rfl,rfl,rfl⟩:=he;exact ⟨σ1,rfl,d1,T1,W1⟩
      | ret=>simp only [ex,Option.some.injEq,CdR.mk.injEq] at he;obtain ⟨rfl,rfl,rfl,rfl,rfl⟩:=he;exact ⟨σ1,rfl,d1,T1,W1⟩

theorem codeK_ok {sm:Sm}(hm:P.follows .mixedOrders=true)(hng:NoGo P=true)(hsm:SmOk P η sm)(n:Nat){nt:Nat}(hn:nt≤bigN){keep:List Nat}{l:List Code}{tm tm':Tmps}{ds ds':List Dfr}{h h':Heap}{c c':Nat}{e:Ex}(he:codeK P sm n nt keep l tm ds h c=some (.mk e tm' ds' h' c')){σ:Sig}{w:World}{a:Act}(H:HR P σ η h c w)(T:TR σ η nt tm a.tmps)(D:DR σ η ds a.defers):wpL P (PostC P η σ h c w nt e tm' ds' h' c') l a w:=by
  unfold codeK at he
  split at he
  · rename_i e1 tm1 ds1 h1 c1 e2
    refine wpL_mono ?_ (codeL_ok hm hng hsm n hn e2 H T D)
    rintro ex a' w' ⟨σ1,rfl,d1,T1,W1⟩
    obtain ⟨g,k1,W2⟩:=keepOnly_ok W1.rel keep .nil (fun n o q=>by rw [Tr.get_nil] at q;cases q) he
    cases k1
    exact ⟨σ1,rfl,d1,T1,W1.trans W2⟩
  · cases he
end
/- An evaluator of closed runs: a function without arguments, run piece by piece. -/
section
variable {σ σ':Sig}{η:Env}{P:Program}

def I (n:Nat):AV:=.int .i64 (.ofNat n)
def U (n:Nat):AV:=.int .u8 (.ofNat n)
def N {α:Type}:Tr α:=.nil

theorem leads_of {f:Nat}{fn:Func}{args:Array Value}{w:World}{R:Ending→World→Prop}(hng:NoGo P=true)(hf:P.funcs[f]? = some fn)(hb:fn.body.isSome=true)(h:Calls P f args w R):Leads P f args w R:=by
  obtain ⟨b,hb⟩:=Option.isSome_iff_exists.1 hb
  exact leads_of_calls hng hf hb h

/-- One piece of a run, and what is behind it. -/
theorem piece {sm:Sm}(hm:P.follows .mixedOrders=true)(hng:NoGo P=true)(hsm:SmOk P η sm){n nt:Nat}(hn:nt≤bigN){keep:List Nat}{l:List Code}{k m:Nat}{tm tm':Tmps}{h h':Heap}{c c':Nat}{Q:Exit→Act→World→Prop}{w:World}{a:Act}
    (he:cdEq (codeK P sm n nt keep ((l.drop k).take m) tm [] h c) (.mk .norm tm' [] h' c')=true)(H:HR P σ η h c w)(T:TR σ η nt tm a.tmps)(D:a.defers=[])
    (next:∀ σ' a' w',a'.defers=[]→TR σ' η nt tm' a'.tmps→Went P η σ h c w σ' h' c' w'→wpL P Q (l.drop (k+m)) a' w'):wpL P Q (l.drop k) a w:=by
  have e:l.drop k=(l.drop k).take m++l.drop (k+m):=by rw [← List.drop_drop,List.take_append_drop]
  rw [e]
  refine wpL_append (wpL_mono ?_ (codeK_ok hm hng hsm n hn (cdEq_eq he) H T (by rw [D];trivial)))
  rintro ex a' w' ⟨σ',rfl,d,T',W⟩
  refine next σ' a' w' ?_ T' W
  cases hd:a'.defers with
  | nil=>rfl
  | cons x y=>rw [hd] at d;exact d.elim

/-- The last piece, which returns. -/
theorem last_piece {sm:Sm}(hm:P.follows .mixedOrders=true)(hng:NoGo P=true)(hsm:SmOk P η sm){n nt:Nat}(hn:nt≤bigN){keep:List Nat}{l:List Code}{k:Nat}{tm tm':Tmps}{h h':Heap}{c c':Nat}{fn:Func}{v:AV}{R:Ending→World→Prop}{w:World}{a:Act}
    (he:cdEq (codeK P sm n nt keep (l.drop k) tm [] h c) (.mk .ret tm' [] h' c')=true)(H:HR P σ η h c w)(T:TR σ η nt tm a.tmps)(D:a.defers=[])(hr:resV tm' h' P fn.results.toList=some [v])
    (next:∀ σ' u w',conc σ' η v=some u→Went P η σ h c w σ' h' c' w'→R (.returned u) w'):wpL P (bodyPost P fn R) (l.drop k) a w:=by
  refine wpL_mono ?_ (codeK_ok hm hng hsm n hn (cdEq_eq he) H T (by rw [D];trivial))
  rintro ex a' w' ⟨σ',rfl,d,T',W⟩
  have hd:a'.defers=[]:=by
    cases hd:a'.defers with
    | nil=>rfl
    | cons x y=>rw [hd] at d;exact d.elim
  obtain ⟨_,_,u,u1,u2⟩:=res_ok (fn:=fn) (v:=v) (h':=h') (c':=c') W.rel T' (by rw [hr];show fAV v (fun v=>some (CRes.mk v h' c'))=_;rw [fAV_eq])
  exact ⟨hd,u,u1,next σ' u w' u2 W⟩

/-- The temporaries of a function that has no arguments. -/
theorem noArgs {nt:Nat}:TR σ η nt .nil (#[]++Array.replicate (nt - 0) undef):=by
  refine ⟨by simp,fun t=>?_⟩
  have:((#[]++Array.replicate (nt - 0) undef:Array Value)).getD t undef=undef:=by
    rw [Array.getD_eq_getD_getElem?]
    simp only [Nat.sub_zero,Array.empty_append]
    by_cases h:t<nt
    · rw [Array.getElem?_eq_getElem (by simpa using h)];simp
    · rw [Array.getElem?_eq_none (by simpa using h)];rfl
  rw [this]
  show conc σ η (evO .nil (.tmp t))=_
  rw [evO_tmp,Tr.get_nil]
  exact conc_uv

/-- The start: the variables of which some are read, and no one turns them. -/
def sig0 (n:Nat):Sig:=fun g=>if g<n then some ⟨g,0,0⟩ else none
/-- A heap of variables that are only read. -/
def RoHeap (P:Program)(η:Env)(h:Heap)(w:World):Prop:=∀ n o,h.get n=some o→n<P.globals.size∧∃ t cs,o = .ro t cs∧∃ (c:Array Value)(fr:Nat × Nat)(vs:List Value)(t:TypeId),w.heap[n]? = some (.cells c t fr)∧(∀ σ,concs σ η cs=some vs)∧(∀ (i:Nat)(v:Value),vs[i]? = some v→c[i]? = some v)∧allOne vs=true∧η.blk n=some (.cells c t fr)
theorem start_ok {h:Heap}{w:World}(h0:RoHeap P η h w):HR P (sig0 P.globals.size) η h P.globals.size w:=by
  have sg:∀ n,n<P.globals.size→sig0 P.globals.size n=some ⟨n,0,0⟩:=fun n hn=>by simp [sig0,hn]
  refine ⟨fun n o hn=>?_,fun a b x y ha hb hx hy e=>?_,fun n hn=>?_,fun g hg=>⟨0,sg g hg⟩⟩
  · obtain ⟨k, t, cs, rfl, c, fr, vs, t0, h1, h2, h3, h4, h5⟩ := h0 n o hn
    exact ⟨_,sg n k,c,fr,vs,t0,h1,h2 _,fun i v hv=>by simpa using h3 i v hv,h4,h5⟩
  · have lt:∀ n,(h.get n).isSome=true→n<P.globals.size:=fun n hn=>by
      cases q:h.get n with
      | none=>rw [q] at hn;cases hn
      | some o=>exact (h0 n o q).1
    rw [sg a (lt a ha)] at hx
    rw [sg b (lt b hb)] at hy
    cases hx;cases hy
    exact e
  · have : ¬ n < P.globals.size := Nat.not_lt.2 hn
    simp [sig0,this]

/-- At the end nothing that was there has turned. -/
theorem end_ok {h h':Heap}{c':Nat}{w w':World}(h0:RoHeap P η h w)(W:Went P η (sig0 P.globals.size) h P.globals.size w σ' h' c' w')(hk:∀ n o,h.get n=some o→∃ t cs,h'.get n=some (.ro t cs)):Kept (fun _=>False) w w':=by
  refine ⟨W.kept.os,W.kept.tape,W.kept.output,W.kept.size,fun k hk' _=>?_⟩
  by_cases q:Liv (sig0 P.globals.size) h k
  · obtain ⟨n, l, h1, h2, rfl⟩ := q
    cases e:h.get n with
    | none=>rw [e] at h1;cases h1
    | some o =>
      obtain ⟨k1,t,cs,rfl,c,fr,vs,t0,g1,_,_,_,g5⟩:=h0 n o e
      have:sig0 P.globals.size n=some ⟨n,0,0⟩:=by simp [sig0,k1]
      rw [this] at h2
      cases h2
      obtain ⟨t',cs',e'⟩:=hk n _ e
      obtain ⟨l',hl',c',fr',vs',t0',g1',_,_,_,g5'⟩:=W.rel.obj n _ e'
      rw [W.ext _ _ this] at hl'
      cases hl'
      show w'.heap[n]? = w.heap[n]?
      simp only at g1' g5' 
      rw [g1',g1,← g5',g5]
  · exact W.kept.block k hk' q

/-- Names of read-only blocks are so still. -/
noncomputable def roSame:Nat→Heap→Heap→Bool
  | 0,_,_=>true
  | n + 1, h, h' => (match h.get n with
    | some _ => match h'.get n with
      | some (.ro _ _)=>true
      | _=>false
    | none=>true) && roSame n h h'
theorem ro_names {h h':Heap}{g:Nat}{o:AObj}:∀ {n:Nat},g<n→h.get g=some o→roSame n h h'=true→∃ t cs,h'.get g=some (.ro t cs)
  | n + 1, hg, hn, hr => by
    simp only [roSame,Bool.and_eq_true] at hr
    by_cases e:g=n
    · subst e
      have h1:=hr.1
      rw [hn] at h1
      simp only at h1
      split at h1
      · rename_i t cs e2;exact ⟨t,cs,e2⟩
      · cases h1
    · exact ro_names (by omega) hn hr.2

/-- A function's contract by its run. -/
theorem calls_of_callE {sm:Sm}(hm:P.follows .mixedOrders=true)(hng:NoGo P=true)(hsm:SmOk P η sm){n f:Nat}{fn:Func}{args:List AV}{h h':Heap}{c c':Nat}{v:AV}(he:callE P sm n (.fn f) args h c=some (.mk v h' c'))(hf:P.funcs[f]? = some fn)(hb:fn.body.isSome=true){w:World}{avs:List Value}(H:HR P σ η h c w)(ha:concs σ η args=some avs):Calls P f avs.toArray w (Done P η σ h c w v h' c'):=by
  obtain ⟨b,hb⟩:=Option.isSome_iff_exists.1 hb
  rcases callE_ok hm hng hsm n (.fn f) args h c v h' c' he σ w avs H ha with ⟨_,q⟩ | ⟨u,w',q,_⟩
  · exact callsIn_wide.1 q
  · rw [enters hng hf hb] at q;cases q

/-- No summaries. -/
def sm0:Sm:=⟨fun _=>none,fun _=>none⟩
theorem sm0_ok:SmOk P η sm0:=⟨fun _ _ h=>(by cases h),fun _ _ h=>(by cases h)⟩

/-- What a result is, by comparison: its value, and that the read-only names are there. -/
noncomputable def isRes (n:Nat)(h:Heap)(v:AV):Option CRes→Bool
  | some (.mk u h' _)=>avEq u v && roSame n h h'
  | none=>false
end
/- An evaluator of closed runs: blocks that are handed in, beside the variables, are read-only names. -/
section
variable {σ σ':Sig}{η:Env}{P:Program}

/-- A heap of names that are only read: variables, and blocks that were handed in. -/
structure RoS (P:Program) (η:Env) (s:Sig) (h:Heap) (c:Nat) (w:World):Prop where
  glob:∀ g,g<P.globals.size→s g=some ⟨g,0,0⟩
  new:∀ n,c≤n→s n=none
  obj:∀ n o,h.get n=some o→∃ b,s n=some ⟨b,0,0⟩∧∃ t cs,o = .ro t cs∧∃ (a:Array Value) (fr:Nat × Nat) (vs:List Value) (t:TypeId),w.heap[b]? = some (.cells a t fr)∧(∀ σ,concs σ η cs=some vs)∧(∀ (i:Nat) (v:Value),vs[i]? = some v→a[i]? = some v)∧allOne vs=true∧η.blk b=some (.cells a t fr)
  inj:∀ n m l k,(h.get n).isSome=true→(h.get m).isSome=true→s n=some l→s m=some k→l.blk=k.blk→n=m

theorem RoS.start {s:Sig}{h:Heap}{c:Nat}{w:World}(H:RoS P η s h c w):HR P s η h c w:=by
  refine ⟨fun n o hn=>?_,H.inj,H.new,fun g hg=>⟨0,H.glob g hg⟩⟩
  obtain ⟨b,h1,t,cs,rfl,a,fr,vs,t0,g1,g2,g3,g4,g5⟩:=H.obj n o hn
  exact ⟨_,h1,a,fr,vs,t0,g1,g2 _,fun i v hv=>by simpa using g3 i v hv,g4,g5⟩

theorem RoS.stop {s:Sig}{h h':Heap}{c c':Nat}{w w':World}(H:RoS P η s h c w)(W:Went P η s h c w σ' h' c' w')(hk:∀ n o,h.get n=some o→∃ t cs,h'.get n=some (.ro t cs)):Kept (fun _=>False) w w':=by
  refine ⟨W.kept.os,W.kept.tape,W.kept.output,W.kept.size,fun k hk' _=>?_⟩
  by_cases q:Liv s h k
  · obtain ⟨n, l, h1, h2, rfl⟩ := q
    cases e:h.get n with
    | none=>rw [e] at h1;cases h1
    | some o =>
      obtain ⟨b,k1,t,cs,rfl,a,fr,vs,t0,g1,_,_,_,g5⟩:=H.obj n o e
      rw [k1] at h2
      cases h2
      obtain ⟨t',cs',e'⟩:=hk n _ e
      obtain ⟨l',hl',a',fr',vs',t0',g1',_,_,_,g5'⟩:=W.rel.obj n _ e'
      rw [W.ext _ _ k1] at hl'
      cases hl'
      show w'.heap[b]? = w.heap[b]?
      simp only at g1' g5'
      rw [g1',g1,← g5',g5]
  · exact W.kept.block k hk' q


end
end Go.Eng
