/- A part of the proof. -/
import Derived.Laws.Build
import Derived.Test.YthknocapablpaaaGreatDoorAi12
namespace Go.Eng
/- An evaluator of closed runs: all operations that are reckoned by their operands alone are the model's. -/
section
variable {σ σ':Sig}{η:Env}{P:Program}

theorem aConv_ok {s d:TypeId}{x r:AV}{u:Value}(h:aConv P s d x=some r)(ha:conc σ η x=some u):∃ z,conc σ η r=some z∧∀ w,(convert s d u).run P w = .ok z w:=by
  unfold aConv at h
  split at h
  · rename_i ds k q n hs hd
    cases h
    rw [conc_int] at ha;subst ha
    refine ⟨_,conc_int.2 rfl,fun w=>?_⟩
    simp only [convert,Sem.run_bind,run_underlying hs,run_underlying hd,Result.andThen_ok]
    simp [Conv.intToInt,wrapF_eq]
  · rename_i ds l hs hd
    cases h
    obtain ⟨h1,rfl⟩:=conc_str.1 ha
    refine ⟨_,conc_str.2 ⟨h1,rfl⟩,fun w=>?_⟩
    simp only [convert,Sem.run_bind,run_underlying hs,run_underlying hd,Result.andThen_ok]
    simp
  · cases h

theorem min2_ok {a b r:AV}{u v:Value}(h:min2A a b=some r)(ha:conc σ η a=some u)(hb:conc σ η b=some v):∃ z,conc σ η r=some z∧∀ w,(Builtin.min2 u v).run P w = .ok z w:=by
  unfold min2A at h
  split at h
  · rename_i k x k' y
    cases h
    rw [conc_int] at ha hb;subst ha hb
    refine ⟨_,conc_int.2 rfl,fun w=>?_⟩
    simp only [Builtin.min2,Sem.run_pure,iLe_iff]
    by_cases hq:y<x
    · simp [hq,show ¬ x≤y by omega]
    · simp [hq,show x≤y by omega]
  · rename_i x y
    cases h
    obtain ⟨h1,rfl⟩:=conc_str.1 ha
    obtain ⟨h2,rfl⟩:=conc_str.1 hb
    have e:∀ w,(Op.stringOp .leq (bs x) (bs y)).run P w = .ok (.bool (!nsLt y x)) w:=fun w=>by simp only [Op.stringOp,bs_toList,nsLt_iff h2 h1];rw [bytesLess_asymm_eq];rfl
    refine ⟨.string (bs (bif nsLt y x then y else x)),conc_str.2 ⟨by cases nsLt y x <;> assumption,rfl⟩,fun w=>?_⟩
    simp only [Builtin.min2,Sem.run_bind,e,Result.andThen_ok,asBool,Sem.run_pure]
    cases nsLt y x <;> rfl
  · cases h
theorem max2_ok {a b r:AV}{u v:Value}(h:max2A a b=some r)(ha:conc σ η a=some u)(hb:conc σ η b=some v):∃ z,conc σ η r=some z∧∀ w,(Builtin.max2 u v).run P w = .ok z w:=by
  unfold max2A at h
  split at h
  · rename_i k x k' y
    cases h
    rw [conc_int] at ha hb;subst ha hb
    refine ⟨_,conc_int.2 rfl,fun w=>?_⟩
    simp only [Builtin.max2,Sem.run_pure,iLe_iff]
    by_cases hq:y > x
    · simp [hq,show ¬ y≤x by omega]
    · simp [hq,show y≤x by omega]
  · rename_i x y
    cases h
    obtain ⟨h1,rfl⟩:=conc_str.1 ha
    obtain ⟨h2,rfl⟩:=conc_str.1 hb
    have e:∀ w,(Op.stringOp .geq (bs x) (bs y)).run P w = .ok (.bool (!nsLt x y)) w:=fun w=>by simp only [Op.stringOp,bs_toList,nsLt_iff h1 h2];rfl
    refine ⟨.string (bs (bif nsLt x y then y else x)),conc_str.2 ⟨by cases nsLt x y <;> assumption,rfl⟩,fun w=>?_⟩
    simp only [Builtin.max2,Sem.run_bind,e,Result.andThen_ok,asBool,Sem.run_pure]
    cases nsLt x y <;> rfl
  · cases h
theorem foldA_ok {f:AV→AV→Option AV}{g:Value→Value→Sem Value}(hf:∀ a b r u v,f a b=some r→conc σ η a=some u→conc σ η b=some v→∃ z,conc σ η r=some z∧∀ w,(g u v).run P w = .ok z w) :
    ∀ {l:List AV} {x r:AV} {u:Value} {vs:List Value},foldA f x l=some r→conc σ η x=some u→concs σ η l=some vs→∃ z,conc σ η r=some z∧∀ w,(vs.foldlM g u).run P w = .ok z w
  | [],x,r,u,vs,h,hx,hl=>by simp [foldA] at h;subst h;simp [concs] at hl;subst hl;exact ⟨u,hx,fun w=>rfl⟩
  | y :: l, x, r, u, vs, h, hx, hl => by
    simp only [foldA,Option.bind_eq_some_iff] at h
    obtain ⟨q,h1,h2⟩:=h
    obtain ⟨v,vs',h3,h4,rfl⟩:=concs_cons.1 hl
    obtain ⟨z,z1,z2⟩:=hf _ _ _ _ _ h1 hx h3
    obtain ⟨z',z3,z4⟩:=foldA_ok hf h2 z1 h4
    exact ⟨z',z3,fun w=>by simp only [List.foldlM_cons,Sem.run_bind,z2,Result.andThen_ok,z4]⟩

theorem lenA_ok {t ty:TypeId}{x r:AV}{u:Value}{as:Array TypeId}{vs:Array Value}(h:lenA P t x=some r)(ha:conc σ η x=some u)(h1:as[0]? = some t)(h2:vs[0]? = some u):∃ z,conc σ η r=some z∧∀ w,(Builtin.len_ as ty vs).run P w = .ok z w:=by
  unfold lenA at h
  split at h <;> simp only [Option.some.injEq,reduceCtorEq] at h <;> (try subst h) <;> rename_i hu
  · obtain ⟨_, rfl⟩ := conc_str.1 ha
    exact ⟨_,conc_int.2 rfl,fun w=>by simp [Builtin.len_,h1,h2,run_underlying hu,goInt,bs_size]⟩
  · exact ⟨_,conc_int.2 rfl,fun w=>by simp only [Builtin.len_,h1,h2,Sem.run_bind,run_underlying hu,Result.andThen_ok,goInt,Sem.run_pure];rfl⟩
  · obtain ⟨l, _, rfl⟩ := conc_slice.1 ha
    exact ⟨_,conc_int.2 rfl,fun w=>by simp [Builtin.len_,h1,h2,run_underlying hu,goInt]⟩
  · rw [conc_nils] at ha; subst ha
    exact ⟨_,conc_int.2 rfl,fun w=>by simp [Builtin.len_,h1,h2,run_underlying hu,goInt]⟩
  · rw [conc_nilm] at ha; subst ha
    exact ⟨_,conc_int.2 rfl,fun w=>by simp [Builtin.len_,h1,h2,run_underlying hu,goInt]⟩
theorem capA_ok {t ty:TypeId}{x r:AV}{u:Value}{as:Array TypeId}{vs:Array Value}(h:capA P t x=some r)(ha:conc σ η x=some u)(h1:as[0]? = some t)(h2:vs[0]? = some u):∃ z,conc σ η r=some z∧∀ w,(Builtin.cap_ as ty vs).run P w = .ok z w:=by
  unfold capA at h
  split at h <;> simp only [Option.some.injEq,reduceCtorEq] at h <;> (try subst h) <;> rename_i hu
  · obtain ⟨l, _, rfl⟩ := conc_slice.1 ha
    exact ⟨_,conc_int.2 rfl,fun w=>by simp [Builtin.cap_,h1,h2,run_underlying hu,goInt]⟩
  · rw [conc_nils] at ha; subst ha
    exact ⟨_,conc_int.2 rfl,fun w=>by simp [Builtin.cap_,h1,h2,run_underlying hu,goInt]⟩

theorem aAssert_ok {t xt:TypeId}{x r:AV}{ok:Bool}{u:Value}(h:aAssert P x t ok=some r)(ha:conc σ η x=some u):∃ z,conc σ η r=some z∧∀ w,(Instr.typeAssert u xt t ok).run P w = .ok z w:=by
  unfold aAssert at h
  split at h
  · cases h
  · rename_i d q v hni hu
    obtain ⟨cv,h1,rfl⟩:=conc_iface.1 ha
    cases e:Nat.beq q t with
    | false=>simp [e] at h
    | true =>
      have:=Nat.eq_of_beq_eq_true e
      subst this
      simp only [e,cond_true,Option.some.injEq] at h
      subst h
      refine ⟨if ok then .tuple #[cv,.bool true] else cv,?_,fun w=>?_⟩
      · cases ok
        · simpa using h1
        · exact conc_tup.2 ⟨_,concs_cons.2 ⟨_,_,h1,concs_cons.2 ⟨_,_,conc_bool.2 rfl,rfl,rfl⟩,rfl⟩,rfl⟩
      · simp only [Instr.typeAssert, Sem.run_bind, run_underlying hu, Result.andThen_ok]
        cases d <;> first | (exact absurd rfl (hni _)) | simp
  · cases h

theorem concs_map {ρ:Operand→AV}{e:Operand→Value}:∀ {l:List Operand},(∀ x∈l,conc σ η (ρ x)=some (e x))→concs σ η (l.map ρ)=some (l.map e)
  | [],_=>rfl
  | x::l,h=>concs_cons.2 ⟨_,_,h x (by simp),concs_map fun y hy=>h y (by simp [hy]),rfl⟩
theorem partsR_map {ρ:Operand→AV}{e:Operand→Value}:∀ {l:List (Nat × Operand)},(∀ x∈l,conc σ η (ρ x.2)=some (e x.2))→PartsR σ η (l.map fun p=>(p.1,ρ p.2)) (l.map fun p=>(p.1,e p.2))
  | [],_=>trivial
  | x::l,h=>⟨rfl,h x (by simp),partsR_map fun y hy=>h y (by simp [hy])⟩
theorem optR_map {ρ:Operand→AV}{e:Operand→Value}{o:Option Operand}(h:∀ x∈o.toArray,conc σ η (ρ x)=some (e x)):OptR σ η (o.map ρ) (o.map e):=by
  cases o with
  | none=>trivial
  | some x=>exact h x (by simp)

theorem sliceData_nil (as:Array TypeId)(ty:TypeId):Builtin.unsafeSliceData_ as ty #[.slice none 0 0]=pure (.pointer none):=rfl
theorem sliceData_some (as:Array TypeId)(ty:TypeId)(a:Addr)(l c:Nat)(h:c≠0)(w:World):(Builtin.unsafeSliceData_ as ty #[.slice (some a) l c]).run P w = .ok (.pointer (some a)) w:=by
  show (if c≠0 then pure (.pointer (some a)) else _:Sem Value).run P w=_
  rw [if_pos h];rfl
theorem aPure_ok {ρ:Operand→AV}{e:Operand→Value}{o:Oper}{r:AV}(h:aPure P ρ o.op=some r)(hr:∀ x∈o.op.operands,conc σ η (ρ x)=some (e x)) :
    ∃ u,conc σ η r=some u∧∀ w,(execOp e o).run P w = .ok (.value u) w:=by
  have val:∀ {s:Sem Value} {u:Value},(∀ w,s.run P w = .ok u w)→∀ w,(do pure (.value (← s)):Sem Next).run P w = .ok (.value u) w:=by
    intro s u hs w
    rw [Sem.run_bind,hs w];rfl
  unfold aPure at h
  unfold execOp
  split at h
  · rename_i x hop
    rw [hop] at hr ⊢
    cases h
    exact ⟨_,hr x (by simp [Op.operands]),fun w=>rfl⟩
  · rename_i x hop
    rw [hop] at hr ⊢
    cases h
    exact ⟨_,hr x (by simp [Op.operands]),fun w=>rfl⟩
  · rename_i c a b hop
    rw [hop] at hr ⊢
    have hc:=hr c (by simp [Op.operands])
    split at h
    · rename_i ec; cases h
      rw [ec,conc_bool] at hc
      exact ⟨_,hr a (by simp [Op.operands]),fun w=>by simp [hc,asBool]⟩
    · rename_i ec; cases h
      rw [ec,conc_bool] at hc
      exact ⟨_,hr b (by simp [Op.operands]),fun w=>by simp [hc,asBool]⟩
    · cases h
  · rename_i t parts hop
    rw [hop] at hr ⊢
    obtain ⟨u,h1,h2⟩:=aBuild_ok (ps:=parts.map fun p=>(p.1,e p.2)) h (by
      rw [Array.toList_map]
      exact partsR_map fun x hx=>hr x.2 (by simp [Op.operands];exact ⟨x.1,by simpa using hx⟩))
    exact ⟨u,h1,val h2⟩
  · rename_i x hop
    rw [hop] at hr ⊢
    have hx:=hr x (by simp [Op.operands])
    split at h
    · rename_i n o2 ex;cases h;rw [ex] at hx;obtain ⟨l,_,hl⟩:=conc_ptr.1 hx;exact ⟨_,hx,fun w=>by simp [hl]⟩
    · rename_i f a b ex;cases h;rw [ex] at hx;obtain ⟨_,_,_,_,hl⟩:=conc_func.1 hx;exact ⟨_,hx,fun w=>by simp [hl]⟩
    · rename_i t v ex;cases h;rw [ex] at hx;obtain ⟨_,_,hl⟩:=conc_iface.1 hx;exact ⟨_,hx,fun w=>by simp [hl]⟩
    · rename_i n ex;cases h;rw [ex] at hx;obtain ⟨_,_,hl⟩:=conc_yld.1 hx;exact ⟨_,hx,fun w=>by simp [hl]⟩
    · cases h
  · rename_i op t x y yt hop
    rw [hop] at hr ⊢
    obtain ⟨z,z1,z2⟩:=aBin_ok h (hr x (by simp [Op.operands])) (hr y (by simp [Op.operands]))
    exact ⟨z,z1,val z2⟩
  · rename_i op t x hop
    rw [hop] at hr ⊢
    obtain ⟨z,z1,z2⟩:=aUn_ok (P:=P) h (hr x (by simp [Op.operands]))
    exact ⟨z,z1,val z2⟩
  · rename_i s d x hop
    rw [hop] at hr ⊢
    obtain ⟨z,z1,z2⟩:=aConv_ok h (hr x (by simp [Op.operands]))
    exact ⟨z,z1,val z2⟩
  · rename_i t x hop
    rw [hop] at hr ⊢
    split at h
    · cases h
    · rename_i d hu hd
      cases h
      refine ⟨_,conc_iface.2 ⟨_,hr x (by simp [Op.operands]),rfl⟩,val fun w=>?_⟩
      simp only [Instr.makeInterface,Sem.run_bind,run_underlying hd,Result.andThen_ok]
      cases d <;> first | (exact absurd rfl (hu _)) | rfl
    · cases h
  · rename_i f first capt hop
    rw [hop] at hr ⊢
    cases h
    exact ⟨_,conc_func.2 ⟨_,_,concs_map fun x hx=>hr x (by simp [Op.operands];exact .inl (by simpa using hx)),concs_map fun x hx=>hr x (by simp [Op.operands];exact .inr (by simpa using hx)),rfl⟩,fun w=>by simp [Instr.makeFunc];exact ⟨Array.toList_inj.1 (by simp),Array.toList_inj.1 (by simp)⟩⟩
  · rename_i t x lo hi mx hop
    rw [hop] at hr ⊢
    obtain ⟨z,z1,z2⟩:=aSlice_ok h (hr x (by simp [Op.operands])) (optR_map fun y hy=>hr y (by simp [Op.operands] at hy ⊢;simp [hy])) (optR_map fun y hy=>hr y (by simp [Op.operands] at hy ⊢;simp [hy])) (optR_map fun y hy=>hr y (by simp [Op.operands] at hy ⊢;simp [hy]))
    exact ⟨z,z1,val z2⟩
  · rename_i t x f hop
    rw [hop] at hr ⊢
    obtain ⟨z,z1,z2⟩:=aFieldAddr_ok h (hr x (by simp [Op.operands]))
    exact ⟨z,z1,val z2⟩
  · rename_i t x f hop
    rw [hop] at hr ⊢
    obtain ⟨z,z1,z2⟩:=aField_ok h (hr x (by simp [Op.operands]))
    exact ⟨z,z1,val z2⟩
  · rename_i t x i hop
    rw [hop] at hr ⊢
    obtain ⟨z,z1,z2⟩:=aIndexAddr_ok h (hr x (by simp [Op.operands])) (hr i (by simp [Op.operands]))
    exact ⟨z,z1,val z2⟩
  · rename_i t x i hop
    rw [hop] at hr ⊢
    obtain ⟨z,z1,z2⟩:=aIndex_ok h (hr x (by simp [Op.operands])) (hr i (by simp [Op.operands]))
    exact ⟨z,z1,val z2⟩
  · rename_i x xt t ok hop
    rw [hop] at hr ⊢
    obtain ⟨z,z1,z2⟩:=aAssert_ok h (hr x (by simp [Op.operands]))
    exact ⟨z,z1,val z2⟩
  · rename_i t i hop
    rw [hop] at hr ⊢
    have hx:=hr t (by simp [Op.operands])
    split at h
    · rename_i l ex
      rw [ex] at hx
      obtain ⟨vs,h1,h2⟩:=conc_tup.1 hx
      rw [nth_eq] at h
      obtain ⟨v,h3,h4⟩:=(concs_get h1 i).2 r h
      exact ⟨v,h4,val fun w=>by rw [h2];simp [Instr.extract,h3]⟩
    · cases h
  · rename_i c hop
    rw [hop] at hr ⊢
    obtain ⟨callee,args,argTypes⟩:=c
    have args':∀ x∈args,conc σ η (ρ x)=some (e x):=fun x hx=>hr x (by simp [Op.operands,Call.operands,hx])
    have at':∀ i x,args[i]? = some x→conc σ η (ρ x)=some (e x)∧(args.map e)[i]? = some (e x):=fun i x hx=>⟨args' x (Array.mem_of_getElem? hx),by simp [hx]⟩
    have all:∀ {l:List AV},args.toList.map ρ=l→concs σ η l=some (args.map e).toList:=by
      rintro l rfl
      rw [Array.toList_map]
      exact concs_map fun x hx=>args' x (by simpa using hx)
    split at h
    · rename_i hc
      simp only at hc
      subst hc
      split at h
      · rename_i t x e1 e2
        obtain ⟨z,z1,z2⟩:=lenA_ok (ty:=o.type) h (at' 0 x e2).1 e1 (at' 0 x e2).2
        exact ⟨z,z1,fun w=>by simp [resolve,invoke,builtin,z2]⟩
      · cases h
    · rename_i hc
      simp only at hc
      subst hc
      split at h
      · rename_i t x e1 e2
        obtain ⟨z,z1,z2⟩:=capA_ok (ty:=o.type) h (at' 0 x e2).1 e1 (at' 0 x e2).2
        exact ⟨z,z1,fun w=>by simp [resolve,invoke,builtin,z2]⟩
      · cases h
    · rename_i hc
      simp only at hc
      subst hc
      split at h
      · rename_i x l ex
        obtain ⟨v,vs,h1,h2,h3⟩:=concs_cons.1 (all ex)
        obtain ⟨z,z1,z2⟩:=foldA_ok (P:=P) (fun a b r u v=>min2_ok) h h1 h2
        exact ⟨z,z1,fun w=>by simp only [resolve,invoke,builtin,Sem.run_bind,Sem.run_pure,Result.andThen_ok,Builtin.min_,h3,z2]⟩
      · cases h
    · rename_i hc
      simp only at hc
      subst hc
      split at h
      · rename_i x l ex
        obtain ⟨v,vs,h1,h2,h3⟩:=concs_cons.1 (all ex)
        obtain ⟨z,z1,z2⟩:=foldA_ok (P:=P) (fun a b r u v=>max2_ok) h h1 h2
        exact ⟨z,z1,fun w=>by simp only [resolve,invoke,builtin,Sem.run_bind,Sem.run_pure,Result.andThen_ok,Builtin.max_,h3,z2]⟩
      · cases h
    · rename_i hc
      simp only at hc
      subst hc
      split at h
      · rename_i ex
        obtain ⟨v,vs,h1,h2,h3⟩:=concs_cons.1 (all ex)
        rw [conc_nils] at h1;subst h1
        simp [concs] at h2;subst h2
        cases h
        have ha:args.map e=#[.slice none 0 0]:=Array.toList_inj.1 h3
        exact ⟨_,conc_nilp.2 rfl,fun w=>by simp only [resolve,invoke,builtin,Sem.run_bind,Sem.run_pure,Result.andThen_ok,ha,sliceData_nil]⟩
      · rename_i n o2 len cap fl ex
        obtain ⟨v,vs,h1,h2,h3⟩:=concs_cons.1 (all ex)
        obtain ⟨lc,hl,rfl⟩:=conc_slice.1 h1
        simp [concs] at h2;subst h2
        cases h
        have ha:args.map e=#[.slice (some ⟨lc.blk,lc.off+o2,none⟩) len (cap+1+(if fl then lc.slack else 0))]:=Array.toList_inj.1 h3
        refine ⟨_,conc_ptr.2 ⟨lc,hl,rfl⟩,fun w=>?_⟩
        have:cap+1+(if fl=true then lc.slack else 0)≠0:=by omega
        simp only [resolve,invoke,builtin,Sem.run_bind,Sem.run_pure,Result.andThen_ok,ha,sliceData_some _ _ _ _ _ this]
      · cases h
    · cases h
  · cases h
end
end Go.Eng
