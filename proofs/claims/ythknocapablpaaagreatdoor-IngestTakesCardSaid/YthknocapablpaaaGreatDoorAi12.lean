/- A part of the proof. -/
import Derived.Laws.Small
import Derived.Laws.Entries
import Derived.Laws.Unary
import Derived.Test.YthknocapablpaaaGreatDoorAi11
namespace Go.Eng
/- An evaluator of closed runs: comparisons, and the other operations that are reckoned by their operands alone. -/
section
variable {σ σ':Sig}{η:Env}{P:Program}

theorem conc_int {k:IntKind}{n:Int}{u:Value}:conc σ η (.int k n)=some u ↔ u = .int k n:=by simp [conc,eq_comm]
theorem conc_bool {b:Bool}{u:Value}:conc σ η (.bool b)=some u ↔ u = .bool b:=by simp [conc,eq_comm]
theorem conc_nilp {u:Value}:conc σ η .nilp=some u ↔ u = .pointer none:=by simp [conc,eq_comm]
theorem conc_nils {u:Value}:conc σ η .nils=some u ↔ u = .slice none 0 0:=by simp [conc,eq_comm]
theorem conc_nilm {u:Value}:conc σ η .nilm=some u ↔ u = .map none:=by simp [conc,eq_comm]
theorem conc_nilf {u:Value}:conc σ η .nilf=some u ↔ u = .nilFunc:=by simp [conc,eq_comm]
theorem conc_nili {u:Value}:conc σ η .nili=some u ↔ u = .nilIface:=by simp [conc,eq_comm]
theorem conc_ptr {n o:Nat}{u:Value}:conc σ η (.ptr n o)=some u ↔ ∃ l,σ n=some l∧u = .pointer (some ⟨l.blk,l.off+o,none⟩):=by
  simp only [conc];cases σ n <;> simp [eq_comm]
theorem conc_slice {n o len cap:Nat}{fl:Bool}{u:Value}:conc σ η (.slice n o len cap fl)=some u ↔ ∃ l,σ n=some l∧u = .slice (some ⟨l.blk,l.off+o,none⟩) len (cap+(if fl then l.slack else 0)):=by
  simp only [conc];cases σ n <;> simp [eq_comm]
theorem conc_map {n:Nat}{u:Value}:conc σ η (.map n)=some u ↔ ∃ l,σ n=some l∧u = .map (some l.blk):=by
  simp only [conc];cases σ n <;> simp [eq_comm]
theorem conc_yld {n:Nat}{u:Value}:conc σ η (.yld n)=some u ↔ ∃ l,σ n=some l∧u = .func (.yield l.blk) #[] #[]:=by
  simp only [conc];cases σ n <;> simp [eq_comm]
theorem conc_iface {t:Nat}{v:AV}{u:Value}:conc σ η (.iface t v)=some u ↔ ∃ x,conc σ η v=some x∧u = .iface t x:=by
  simp only [conc];cases h:conc σ η v with
  | none=>simp
  | some x=>simp only [Option.some.injEq];exact ⟨fun e=>⟨x,rfl,e.symm⟩,fun ⟨_,e,k⟩=>by rw [k,e]⟩
theorem conc_agg {l:List AV}{u:Value}:conc σ η (.agg l)=some u ↔ ∃ vs,concs σ η l=some vs∧allOne vs=true∧u = .agg vs.toArray:=by
  simp only [conc];cases concs σ η l with
  | none=>simp
  | some x =>
    simp only [Option.some.injEq]
    cases h:allOne x with
    | true=>simp only [if_true,Option.some.injEq];exact ⟨fun e=>⟨x,rfl,h,e.symm⟩,fun ⟨_,e,_,k⟩=>by rw [k,e]⟩
    | false=>simp only [Bool.false_eq_true,if_false,reduceCtorEq,false_iff];rintro ⟨_,rfl,e,_⟩;rw [h] at e;cases e
theorem conc_tup {l:List AV}{u:Value}:conc σ η (.tup l)=some u ↔ ∃ vs,concs σ η l=some vs∧u = .tuple vs.toArray:=by
  simp only [conc];cases concs σ η l with
  | none=>simp
  | some x=>simp only [Option.some.injEq];exact ⟨fun e=>⟨x,rfl,e.symm⟩,fun ⟨_,e,k⟩=>by rw [k,e]⟩
theorem conc_func {f:Nat}{a b:List AV}{u:Value}:conc σ η (.func f a b)=some u ↔ ∃ x y,concs σ η a=some x∧concs σ η b=some y∧u = .func (.func f) x.toArray y.toArray:=by
  simp only [conc]
  cases concs σ η a with
  | none=>simp
  | some x => cases concs σ η b with
    | none=>simp
    | some y=>simp only [Option.some.injEq];exact ⟨fun e=>⟨x,y,rfl,rfl,e.symm⟩,fun ⟨_,_,e,e',k⟩=>by rw [k,e,e']⟩

def plainD:TypeDesc→Bool | .int _ | .string | .bool=>true | _=>false

theorem eqAt_ok {t:TypeId}{a b:AV}{r:Bool}{u v:Value}(h:eqAt P t a b=some r)(ha:conc σ η a=some u)(hb:conc σ η b=some v)(d:Nat)(w:World) :
    (Op.equalIn (d+1) t u v).run P w = .ok r w∧(∃ dsc,P.underlying t=some dsc∧plainD dsc=true)∧(∀ cs,u≠.agg cs):=by
  unfold eqAt at h
  split at h
  · rename_i q k x k' y hu
    cases e:Nat.beq (ikN k) (ikN k') with
    | false=>simp [e] at h
    | true =>
      simp only [e,cond_true,Option.some.injEq] at h
      subst h
      rw [conc_int] at ha hb
      subst ha hb
      rw [ikN_inj] at e
      subst e
      exact ⟨by rw [run_equalIn_int w d t k q x y hu,iEq_iff],⟨_,hu,rfl⟩,by simp⟩
  · rename_i x y hu
    cases h
    obtain ⟨h1,rfl⟩:=conc_str.1 ha
    obtain ⟨h2,rfl⟩:=conc_str.1 hb
    exact ⟨by rw [run_equalIn_string w d t _ _ hu,bs_toList,bs_toList,nsEq_iff h1 h2],⟨_,hu,rfl⟩,by simp⟩
  · rename_i x y hu
    cases h
    rw [conc_bool] at ha hb
    subst ha hb
    exact ⟨run_equalIn_bool' w d t _ _ hu,⟨_,hu,rfl⟩,by simp⟩
  · cases h

theorem run_part_plain {t:TypeId}{dsc:TypeDesc}{cs:Array Value}{i:Nat}{v:Value}(hu:P.underlying t=some dsc)(hd:plainD dsc=true)(hc:cs[i]? = some v)(w:World):(part t cs i).run P w = .ok v w:=by
  have:(isAgg t).run P w = .ok false w:=by
    simp only [isAgg,Sem.run_bind,run_underlying hu,Result.andThen_ok]
    cases dsc <;> simp_all [plainD]
  simp [part,this,hc]

theorem fieldsEq_ok (d:Nat)(xs ys:List Value)(w:World):∀ (fs:List Field)(i:Nat)(a b:List AV)(r:Bool),fieldsEq P fs i a b=some r→concs σ η a=some (xs.drop i)→concs σ η b=some (ys.drop i)→(Op.eqFields (d+1) xs.toArray ys.toArray fs).run P w = .ok r w
  | [],_,[],[],r,h,_,_=>by simp [fieldsEq] at h;subst h;simp [Op.eqFields]
  | [],_,[],_::_,_,h,_,_=>by simp [fieldsEq] at h
  | [],_,_::_,_,_,h,_,_=>by simp [fieldsEq] at h
  | _::_,_,[],_,_,h,_,_=>by simp [fieldsEq] at h
  | _::_,_,_::_,[],_,h,_,_=>by simp [fieldsEq] at h
  | f :: fs, i, x :: a, y :: b, r, h, ha, hb => by
    obtain ⟨u,us,h1,h2,e1⟩:=concs_cons.1 ha
    obtain ⟨v,vs,h3,h4,e2⟩:=concs_cons.1 hb
    simp only [fieldsEq] at h
    cases ec:(Nat.beq f.offset i && !(f.name == "_")) with
    | false=>simp [ec] at h
    | true =>
      simp only [ec,cond_true] at h
      rw [Bool.and_eq_true] at ec
      have eo:=Nat.eq_of_beq_eq_true ec.1
      have en:f.name ≠ "_" := by have:=ec.2;simpa using this
      have gx:xs.toArray[f.offset]? = some u:=by
        rw [eo];have:=congrArg (·[0]?) e1;simpa using this
      have gy:ys.toArray[f.offset]? = some v:=by
        rw [eo];have:=congrArg (·[0]?) e2;simpa using this
      have d1:us=xs.drop (i+1):=by have:=congrArg List.tail e1;simp at this;exact this.symm
      have d2:vs=ys.drop (i+1):=by have:=congrArg List.tail e2;simp at this;exact this.symm
      cases eq:eqAt P f.type x y with
      | none=>simp [eq] at h
      | some q =>
        obtain ⟨hq,⟨dsc,hu,hd⟩,_⟩:=eqAt_ok eq h1 h3 d w
        simp only [Op.eqFields,ne_eq,en,not_false_eq_true,if_true,Sem.run_bind,run_part_plain hu hd gx,run_part_plain hu hd gy,Result.andThen_ok,hq]
        cases q with
        | false=>simp only [eq,Option.some.injEq] at h;subst h;simp
        | true =>
          simp only [eq] at h
          simp only [Bool.not_true,Bool.false_eq_true,if_false]
          exact fieldsEq_ok d xs ys w fs (i+1) a b r h (d1 ▸ h2) (d2 ▸ h4)

theorem isConstO_iff {x:Operand}:isConstO x=true ↔ ∃ v,x = .const v:=by cases x <;> simp [isConstO]

theorem eql_shut {t:TypeId}{x y:Operand}{u v:Value}{r:Bool}{w:World}(g1:(eqGuard .eql t x y u v).run P w = .ok () w)(g2:(eqGuard .neq t x y u v).run P w = .ok () w)
    (hb:binOp .eql t u v=(do pure (.bool (← Op.equal t u v))))(hn:binOp .neq t u v=(do pure (.bool (!(← Op.equal t u v)))))(h:∀ d,(Op.equalIn (d+1) t u v).run P w = .ok r w) :
    (eqGuard .eql t x y u v).run P w = .ok () w∧(eqGuard .neq t x y u v).run P w = .ok () w∧(binOp .eql t u v).run P w = .ok (.bool r) w∧(binOp .neq t u v).run P w = .ok (.bool (!r)) w:=by
  have hh:(Op.equal t u v).run P w = .ok r w:=h 9999
  refine ⟨g1,g2,?_,?_⟩
  · rw [hb,Sem.run_bind,hh];rfl
  · rw [hn,Sem.run_bind,hh];rfl

theorem eql_shut2 {t:TypeId}{x y:Operand}{u v:Value}{r:Bool}{w:World}(g1:(eqGuard .eql t x y u v).run P w = .ok () w)(g2:(eqGuard .neq t x y u v).run P w = .ok () w)
    (hb:binOp .eql t u v=(do pure (.bool (← Op.equal t u v))))(hn:binOp .neq t u v=(do pure (.bool (!(← Op.equal t u v)))))(h:∀ d,(Op.equalIn (d+1+1) t u v).run P w = .ok r w) :
    (eqGuard .eql t x y u v).run P w = .ok () w∧(eqGuard .neq t x y u v).run P w = .ok () w∧(binOp .eql t u v).run P w = .ok (.bool r) w∧(binOp .neq t u v).run P w = .ok (.bool (!r)) w:=by
  have hh:(Op.equal t u v).run P w = .ok r w:=h 9998
  refine ⟨g1,g2,?_,?_⟩
  · rw [hb,Sem.run_bind,hh];rfl
  · rw [hn,Sem.run_bind,hh];rfl

/-- The comparison, and the look ahead of it. -/
theorem aEql_ok {t:TypeId}{x y:Operand}{a b:AV}{r:Bool}{u v:Value}(h:aEql P t x y a b=some r)(ha:conc σ η a=some u)(hb:conc σ η b=some v)(w:World) :
    (eqGuard .eql t x y u v).run P w = .ok () w∧(eqGuard .neq t x y u v).run P w = .ok () w∧(binOp .eql t u v).run P w = .ok (.bool r) w∧(binOp .neq t u v).run P w = .ok (.bool (!r)) w:=by
  unfold aEql at h
  split at h
  · have hq := fun d => (eqAt_ok h ha hb d w).1
    rw [conc_bool] at ha hb
    subst ha hb
    exact eql_shut rfl rfl rfl rfl hq
  · rw [conc_nilp] at ha hb;subst ha hb;split at h <;> simp only [Option.some.injEq,reduceCtorEq] at h;subst h;rename_i hu;exact eql_shut rfl rfl rfl rfl (fun d=>by rw [Op.equalIn];simp only [Sem.run_bind,run_underlying hu,Result.andThen_ok];rfl)
  · rw [conc_nilp] at ha;rw [conc_ptr] at hb;obtain ⟨l,_,rfl⟩:=hb;subst ha;split at h <;> simp only [Option.some.injEq,reduceCtorEq] at h;subst h;rename_i hu;exact eql_shut rfl rfl rfl rfl (fun d=>by rw [Op.equalIn];simp only [Sem.run_bind,run_underlying hu,Result.andThen_ok];rfl)
  · rw [conc_nilp] at hb;rw [conc_ptr] at ha;obtain ⟨l,_,rfl⟩:=ha;subst hb;split at h <;> simp only [Option.some.injEq,reduceCtorEq] at h;subst h;rename_i hu;exact eql_shut rfl rfl rfl rfl (fun d=>by rw [Op.equalIn];simp only [Sem.run_bind,run_underlying hu,Result.andThen_ok];rfl)
  · rw [conc_nils] at ha hb;subst ha hb;split at h <;> simp only [Option.some.injEq,reduceCtorEq] at h;subst h;rename_i hu;exact eql_shut rfl rfl rfl rfl (fun d=>by rw [Op.equalIn];simp only [Sem.run_bind,run_underlying hu,Result.andThen_ok];rfl)
  · rw [conc_nils] at ha;rw [conc_slice] at hb;obtain ⟨l,_,rfl⟩:=hb;subst ha;split at h <;> simp only [Option.some.injEq,reduceCtorEq] at h;subst h;rename_i hu;exact eql_shut rfl rfl rfl rfl (fun d=>by rw [Op.equalIn];simp only [Sem.run_bind,run_underlying hu,Result.andThen_ok];rfl)
  · rw [conc_nils] at hb;rw [conc_slice] at ha;obtain ⟨l,_,rfl⟩:=ha;subst hb;split at h <;> simp only [Option.some.injEq,reduceCtorEq] at h;subst h;rename_i hu;exact eql_shut rfl rfl rfl rfl (fun d=>by rw [Op.equalIn];simp only [Sem.run_bind,run_underlying hu,Result.andThen_ok];rfl)
  · rw [conc_nilm] at ha hb;subst ha hb;split at h <;> simp only [Option.some.injEq,reduceCtorEq] at h;subst h;rename_i hu;exact eql_shut rfl rfl rfl rfl (fun d=>by rw [Op.equalIn];simp only [Sem.run_bind,run_underlying hu,Result.andThen_ok];rfl)
  · rw [conc_nilm] at ha;rw [conc_map] at hb;obtain ⟨l,_,rfl⟩:=hb;subst ha;split at h <;> simp only [Option.some.injEq,reduceCtorEq] at h;subst h;rename_i hu;exact eql_shut rfl rfl rfl rfl (fun d=>by rw [Op.equalIn];simp only [Sem.run_bind,run_underlying hu,Result.andThen_ok];rfl)
  · rw [conc_nilm] at hb;rw [conc_map] at ha;obtain ⟨l,_,rfl⟩:=ha;subst hb;split at h <;> simp only [Option.some.injEq,reduceCtorEq] at h;subst h;rename_i hu;exact eql_shut rfl rfl rfl rfl (fun d=>by rw [Op.equalIn];simp only [Sem.run_bind,run_underlying hu,Result.andThen_ok];rfl)
  · rw [conc_nilf] at ha hb;subst ha hb;split at h <;> simp only [Option.some.injEq,reduceCtorEq] at h;subst h;rename_i hu;exact eql_shut rfl rfl rfl rfl (fun d=>by rw [Op.equalIn];simp only [Sem.run_bind,run_underlying hu,Result.andThen_ok];rfl)
  · rw [conc_nilf] at ha;rw [conc_func] at hb;obtain ⟨_,_,_,_,rfl⟩:=hb;subst ha;split at h <;> simp only [Option.some.injEq,reduceCtorEq] at h;subst h;rename_i hu;exact eql_shut rfl rfl rfl rfl (fun d=>by rw [Op.equalIn];simp only [Sem.run_bind,run_underlying hu,Result.andThen_ok];rfl)
  · rw [conc_nilf] at hb;rw [conc_func] at ha;obtain ⟨_,_,_,_,rfl⟩:=ha;subst hb;split at h <;> simp only [Option.some.injEq,reduceCtorEq] at h;subst h;rename_i hu;exact eql_shut rfl rfl rfl rfl (fun d=>by rw [Op.equalIn];simp only [Sem.run_bind,run_underlying hu,Result.andThen_ok];rfl)
  · -- both nil, of an interface type: one of them is the literal
    rw [conc_nili] at ha hb
    subst ha hb
    cases hc:(isConstO x || isConstO y) with
    | false=>simp [hc] at h
    | true =>
      simp only [hc,cond_true] at h
      split at h <;> simp only [Option.some.injEq,reduceCtorEq] at h
      subst h
      rename_i hu
      rw [Bool.or_eq_true,isConstO_iff,isConstO_iff] at hc
      have g:∀ op:BinOp,(eqGuard op t x y .nilIface .nilIface).run P w = .ok () w:=by
        intro op
        rcases hc with ⟨v,rfl⟩ | ⟨v,rfl⟩
        · cases op <;> rfl
        · cases op <;> cases x <;> rfl
      exact eql_shut (g _) (g _) rfl rfl (fun d=>by rw [Op.equalIn];simp only [Sem.run_bind,run_underlying hu,Result.andThen_ok];rfl)
  · rw [conc_nili] at ha;rw [conc_iface] at hb;obtain ⟨_,_,rfl⟩:=hb;subst ha;split at h <;> simp only [Option.some.injEq,reduceCtorEq] at h;subst h;rename_i hu;exact eql_shut rfl rfl rfl rfl (fun d=>by rw [Op.equalIn];simp only [Sem.run_bind,run_underlying hu,Result.andThen_ok];rfl)
  · rw [conc_nili] at hb;rw [conc_iface] at ha;obtain ⟨_,_,rfl⟩:=ha;subst hb;split at h <;> simp only [Option.some.injEq,reduceCtorEq] at h;subst h;rename_i hu;exact eql_shut rfl rfl rfl rfl (fun d=>by rw [Op.equalIn];simp only [Sem.run_bind,run_underlying hu,Result.andThen_ok];rfl)
  · -- two values in interfaces
    rename_i p a q b
    rw [conc_iface] at ha hb
    obtain ⟨cu,h1,rfl⟩:=ha
    obtain ⟨cv,h2,rfl⟩:=hb
    split at h
    · rename_i ms hu
      refine eql_shut2 rfl rfl rfl rfl fun d=>?_
      rw [Op.equalIn]
      simp only [ Sem.run_bind,run_underlying hu,Result.andThen_ok]
      cases e:Nat.beq p q with
      | false =>
        simp only [e,cond_false,Option.some.injEq] at h
        subst h
        have:p≠q:=fun k=>by subst k;simp at e
        simp [this]
      | true =>
        have:=Nat.eq_of_beq_eq_true e
        subst this
        simp only [e,cond_true] at h
        cases ei:P.info? p with
        | none=>simp [ei] at h
        | some i =>
          simp only [ei] at h
          cases ec:i.comparable with
          | false=>simp [ec] at h
          | true =>
            simp only [ec,cond_true] at h
            have:=(eqAt_ok h h1 h2 d w).1
            simp only [ne_eq,not_true_eq_false,if_false,Sem.run_bind,typeInfo,run_program,Result.andThen_ok,ei,Sem.run_pure,ec,Bool.not_true,Bool.false_eq_true]
            exact this
    · cases h
  · -- structs
    rename_i a b
    rw [conc_agg] at ha hb
    obtain ⟨xs,h1,_,rfl⟩:=ha
    obtain ⟨ys,h2,_,rfl⟩:=hb
    split at h
    · rename_i fs hu
      cases ec:(!P.stoodInHeld t && !P.eqGuardType P.depth t) with
      | false=>simp [ec] at h
      | true =>
        simp only [ec,cond_true] at h
        rw [Bool.and_eq_true,Bool.not_eq_true',Bool.not_eq_true'] at ec
        have hf:P.fieldsOf t=fs:=by simp [Program.fieldsOf,hu]
        refine eql_shut2 (run_eqGuard_agg w _ _ _ _ _ _ ec.2) (run_eqGuard_agg w _ _ _ _ _ _ ec.2) rfl rfl fun d=>?_
        rw [run_equalIn_struct w (d+1) t _ _ (by rw [hf];exact hu) ec.1,hf]
        exact fieldsEq_ok d xs ys w fs.toList 0 a b r h (by simpa using h1) (by simpa using h2)
    · cases h
  · cases h

theorem symCmp_ok {op:BinOp}{i:Nat}{c:Int}{r:AV}{v:Value}(h:symCmp op i c=some r)(e:symOk i v=true):∃ n,v = .int .i64 n∧aInt op .i64 n c=some r:=by
  unfold symCmp at h
  unfold symOk at e
  cases q:Nat.blt i 1000 with
  | true=>simp [q] at h
  | false =>
    simp only [q,cond_false,Bool.and_eq_true] at h e
    replace e:=e.2
    split at e
    · rename_i n
      refine ⟨n,rfl,?_⟩
      cases q2:Nat.beq (Nat.mod i 2) 0 with
      | true =>
        simp only [q2,cond_true,decide_eq_true_eq] at h e
        cases op <;> first
          | (cases h;done)
          | (by_cases z : c ≤ symB i
             · simp only [iLe_iff,z,decide_true,cond_true,reduceCtorEq] at h
             · simp only [iLe_iff, z, decide_false, cond_false, Option.some.injEq] at h
               subst h
               have:¬ c≤n:=by omega
               simp only [aInt,iLe_iff,this,decide_false,Bool.not_false])
          | (by_cases z : symB i ≤ c
             · simp only [iLe_iff, z, decide_true, cond_true, Option.some.injEq] at h
               subst h
               have:n≤c:=by omega
               simp only [aInt,iLe_iff,this,decide_true,Bool.not_true]
             · simp only [iLe_iff,z,decide_false,cond_false,reduceCtorEq] at h)
          | (by_cases z : c ≤ symB i
             · simp only [iLe_iff,z,decide_true,cond_true,reduceCtorEq] at h
             · simp only [iLe_iff, z, decide_false, cond_false, Option.some.injEq] at h
               subst h
               have:¬ c≤n:=by omega
               simp only [aInt,iLe_iff,this,decide_false])
      | false =>
        simp only [q2,cond_false,decide_eq_true_eq] at h e
        cases op <;> first
          | (cases h;done)
          | (by_cases z : symB i ≤ c
             · simp only [iLe_iff,z,decide_true,cond_true,reduceCtorEq] at h
             · simp only [iLe_iff, z, decide_false, cond_false, Option.some.injEq] at h
               subst h
               have:¬ n≤c:=by omega
               simp only [aInt,iLe_iff,this,decide_false,Bool.not_false])
          | (by_cases z : c ≤ symB i
             · simp only [iLe_iff, z, decide_true, cond_true, Option.some.injEq] at h
               subst h
               have:c≤n:=by omega
               simp only [aInt,iLe_iff,this,decide_true,Bool.not_true]
             · simp only [iLe_iff,z,decide_false,cond_false,reduceCtorEq] at h)
          | (by_cases z : symB i ≤ c
             · simp only [iLe_iff,z,decide_true,cond_true,reduceCtorEq] at h
             · simp only [iLe_iff, z, decide_false, cond_false, Option.some.injEq] at h
               subst h
               have:¬ n≤c:=by omega
               simp only [aInt,iLe_iff,this,decide_false])
    · cases e

theorem aBin_ok {op:BinOp}{t:TypeId}{x y:Operand}{a b r:AV}{u v:Value}(h:aBin P op t x y a b=some r)(ha:conc σ η a=some u)(hb:conc σ η b=some v) :
    ∃ z,conc σ η r=some z∧∀ w,(do eqGuard op t x y u v;binOp op t u v:Sem Value).run P w = .ok z w:=by
  have shut:∀ {z:Value},(∀ w,(eqGuard op t x y u v).run P w = .ok () w)→(∀ w,(binOp op t u v).run P w = .ok z w)→∀ w,(do eqGuard op t x y u v;binOp op t u v:Sem Value).run P w = .ok z w:=by
    intro z g1 g2 w
    simp only [Sem.run_bind,g1,Result.andThen_ok,g2]
  unfold aBin at h
  split at h
  · rename_i k a k' b
    rw [conc_int] at ha hb
    subst ha hb
    have g:∀ w,(eqGuard op t x y (.int k a) (.int k' b)).run P w = .ok () w:=fun w=>by cases op <;> rfl
    split at h
    · obtain ⟨z, h1, h2⟩ := aShift_ok (k' := k') (P := P) h
      exact ⟨z,h1 _ _,shut g fun w=>h2 w t⟩
    · obtain ⟨z, h1, h2⟩ := aShift_ok (k' := k') (P := P) h
      exact ⟨z,h1 _ _,shut g fun w=>h2 w t⟩
    · cases e : Nat.beq (ikN k) (ikN k') with
      | false=>simp [e] at h
      | true =>
        simp only [e,cond_true] at h
        rw [ikN_inj] at e
        subst e
        obtain ⟨z,h1,h2⟩:=aInt_ok (P:=P) h
        exact ⟨z,h1 _ _,shut g fun w=>h2 w t⟩
  · obtain ⟨h1, rfl⟩ := conc_str.1 ha
    obtain ⟨h2,rfl⟩:=conc_str.1 hb
    obtain ⟨z,h3,h4⟩:=aStr_ok (P:=P) h h1 h2
    exact ⟨z,h3 _ _,shut (fun w=>by cases op <;> rfl) fun w=>h4 w t⟩
  · rename_i i c
    rw [conc_int] at hb
    subst hb
    simp only [conc] at ha
    split at ha
    · rename_i e
      cases ha
      obtain ⟨n,hn,h⟩:=symCmp_ok h e
      rw [hn] at shut ⊢
      obtain ⟨z,h1,h2⟩:=aInt_ok (P:=P) h
      exact ⟨z,h1 _ _,shut (fun w=>by cases op <;> rfl) fun w=>h2 w t⟩
    · cases ha
  · split at h
    · cases e : aEql P t x y a b with
      | none=>simp [e] at h
      | some q =>
        simp only [e,Option.map_some,Option.some.injEq] at h
        subst h
        exact ⟨_,conc_bool.2 rfl,shut (fun w=>(aEql_ok e ha hb w).1) fun w=>(aEql_ok e ha hb w).2.2.1⟩
    · cases e : aEql P t x y a b with
      | none=>simp [e] at h
      | some q =>
        simp only [e,Option.map_some,Option.some.injEq] at h
        subst h
        exact ⟨_,conc_bool.2 rfl,shut (fun w=>(aEql_ok e ha hb w).2.1) fun w=>(aEql_ok e ha hb w).2.2.2⟩
    · cases h

theorem aUn_ok {op:UnOp}{a r:AV}{u:Value}(h:aUn op a=some r)(ha:conc σ η a=some u):∃ z,conc σ η r=some z∧∀ w,(Op.unary op u).run P w = .ok z w:=by
  unfold aUn at h
  split at h
  · cases h;rw [conc_int] at ha;subst ha;exact ⟨_,conc_int.2 rfl,fun w=>by simp [Op.unary,Op.intArith,wrapF_eq]⟩
  · cases h;rw [conc_int] at ha;subst ha;exact ⟨_,conc_int.2 rfl,fun w=>by simp [Op.unary,Op.intBits]⟩
  · cases h;rw [conc_bool] at ha;subst ha;exact ⟨_,conc_bool.2 rfl,fun w=>by simp [Op.unary]⟩
  · cases h
end
/- An evaluator of closed runs: values without addresses, rows of cells, structs and arrays. -/
section
variable {σ σ':Sig}{η:Env}{P:Program}

theorem allOne_iff {l:List Value}:allOne l=true ↔ ∀ v∈l,v.oneCell'=true:=by
  induction l with
  | nil=>simp [allOne]
  | cons x l ih=>simp [allOne,ih]
theorem allOne_append {a b:List Value}:allOne (a++b)=true ↔ allOne a=true∧allOne b=true:=by
  simp only [allOne_iff,List.mem_append]
  exact ⟨fun h=>⟨fun v hv=>h v (.inl hv),fun v hv=>h v (.inr hv)⟩,fun h v hv=>hv.elim (h.1 v) (h.2 v)⟩
theorem conc_one:∀ {a:AV}{v:Value},conc σ η a=some v→v.oneCell'=a.one
  | .int _ _,v,h=>by rw [conc_int] at h;subst h;rfl
  | .bool _,v,h=>by rw [conc_bool] at h;subst h;rfl
  | .str _,v,h=>by obtain ⟨_,rfl⟩:=conc_str.1 h;rfl
  | .nilp,v,h=>by rw [conc_nilp] at h;subst h;rfl
  | .ptr _ _,v,h=>by obtain ⟨_,_,rfl⟩:=conc_ptr.1 h;rfl
  | .nils,v,h=>by rw [conc_nils] at h;subst h;rfl
  | .slice ..,v,h=>by obtain ⟨_,_,rfl⟩:=conc_slice.1 h;rfl
  | .nilm,v,h=>by rw [conc_nilm] at h;subst h;rfl
  | .map _,v,h=>by obtain ⟨_,_,rfl⟩:=conc_map.1 h;rfl
  | .func ..,v,h=>by obtain ⟨_,_,_,_,rfl⟩:=conc_func.1 h;rfl
  | .nilf,v,h=>by rw [conc_nilf] at h;subst h;rfl
  | .iface ..,v,h=>by obtain ⟨_,_,rfl⟩:=conc_iface.1 h;rfl
  | .nili,v,h=>by rw [conc_nili] at h;subst h;rfl
  | .agg _,v,h=>by obtain ⟨_,_,_,rfl⟩:=conc_agg.1 h;rfl
  | .tup _,v,h=>by obtain ⟨_,_,rfl⟩:=conc_tup.1 h;rfl
  | .yld _,v,h=>by obtain ⟨_,_,rfl⟩:=conc_yld.1 h;rfl
  | .sym i, v, h => by
    simp only [conc] at h
    split at h
    · rename_i e;cases h;simp only [symOk,Bool.and_eq_true] at e;exact e.1.1
    · cases h
theorem ones_ok:∀ {l:List AV}{r:List Value},ones l=true→concs σ η l=some r→allOne r=true
  | [],r,_,h=>by simp [concs] at h;subst h;rfl
  | x :: l, r, h, k => by
    obtain ⟨v,vs,h1,h2,rfl⟩:=concs_cons.1 k
    simp only [ones] at h
    cases e:x.one with
    | false=>simp [e] at h
    | true=>simp only [e,cond_true] at h;simp [allOne,conc_one h1,e,ones_ok h h2]

mutual
theorem ofV_ok (σ:Sig)(η:Env):∀ {v:Value}{a:AV},ofV v=some a→conc σ η a=some v
  | .bool b,a,h=>by simp only [ofV,Option.some.injEq] at h;subst h;exact conc_bool.2 rfl
  | .int k n,a,h=>by simp only [ofV,Option.some.injEq] at h;subst h;exact conc_int.2 rfl
  | .string s, a, h => by
    simp only [ofV,Option.some.injEq] at h;subst h
    refine conc_str.2 ⟨?_,?_⟩
    · simp only [allB,List.all_map,List.all_eq_true];intro x _;simp;exact x.toNat_lt
    · obtain ⟨⟨l⟩⟩ := s
      simp only [bs,List.map_map]
      congr
      rw [List.map_congr_left (g:=id)]
      · simp
      · intro x _;simp [Function.comp,UInt8.ofNat_toNat,Nat.toUInt8]
  | .pointer none,a,h=>by simp only [ofV,Option.some.injEq] at h;subst h;exact conc_nilp.2 rfl
  | .slice none 0 0,a,h=>by simp only [ofV,Option.some.injEq] at h;subst h;exact conc_nils.2 rfl
  | .map none,a,h=>by simp only [ofV,Option.some.injEq] at h;subst h;exact conc_nilm.2 rfl
  | .func (.func f) first capt, a, h => by
    simp only [ofV] at h
    split at h
    · rename_i x y e1 e2
      cases h
      exact conc_func.2 ⟨_,_,ofVs_ok σ η e1,ofVs_ok σ η e2,by simp⟩
    · cases h
  | .nilFunc,a,h=>by simp only [ofV,Option.some.injEq] at h;subst h;exact conc_nilf.2 rfl
  | .iface t v, a, h => by
    simp only [ofV] at h
    cases e:ofV v with
    | none=>simp [e] at h
    | some x=>simp only [e,Option.map_some,Option.some.injEq] at h;subst h;exact conc_iface.2 ⟨_,ofV_ok σ η e,rfl⟩
  | .nilIface,a,h=>by simp only [ofV,Option.some.injEq] at h;subst h;exact conc_nili.2 rfl
  | .agg cs, a, h => by
    simp only [ofV] at h
    split at h
    · rename_i l e
      cases eo:ones l with
      | false=>simp [eo] at h
      | true =>
        simp only [eo,cond_true,Option.some.injEq] at h
        subst h
        exact conc_agg.2 ⟨_,ofVs_ok σ η e,ones_ok eo (ofVs_ok σ η e),by simp⟩
    · cases h
  | .tuple cs, a, h => by
    simp only [ofV] at h
    cases e:ofVs cs.toList with
    | none=>simp [e] at h
    | some l=>simp only [e,Option.map_some,Option.some.injEq] at h;subst h;exact conc_tup.2 ⟨_,ofVs_ok σ η e,by simp⟩
  | .float _ _,a,h=>by simp [ofV] at h
  | .complex _ _ _,a,h=>by simp [ofV] at h
  | .pointer (some _),a,h=>by simp [ofV] at h
  | .slice (some _) _ _,a,h=>by simp [ofV] at h
  | .slice none (n+1) c,a,h=>by simp [ofV] at h
  | .slice none 0 (c+1),a,h=>by simp [ofV] at h
  | .map (some _),a,h=>by simp [ofV] at h
  | .chan _,a,h=>by simp [ofV] at h
  | .func (.method _) _ _,a,h=>by simp [ofV] at h
  | .func (.methodOf _ _) _ _,a,h=>by simp [ofV] at h
  | .func (.via _ _ _ _) _ _,a,h=>by simp [ofV] at h
  | .func (.yield _) _ _,a,h=>by simp [ofV] at h
theorem ofVs_ok (σ:Sig)(η:Env):∀ {l:List Value}{a:List AV},ofVs l=some a→concs σ η a=some l
  | [],a,h=>by simp only [ofVs,Option.some.injEq] at h;subst h;rfl
  | x :: l, a, h => by
    simp only [ofVs] at h
    split at h
    · rename_i u us e1 e2
      cases h
      exact concs_cons.2 ⟨_,_,ofV_ok σ η e1,ofVs_ok σ η e2,rfl⟩
    · cases h
end

/-- The cells of a value that is laid. -/
theorem cells_ok {a:AV}{v:Value}(h:conc σ η a=some v)(hl:a.laid=true):concs σ η a.cells=some v.cells.toList∧allOne v.cells.toList=true:=by
  have one:∀ {a:AV} {v:Value},a.one=true→conc σ η a=some v→a.cells=[a]→v.cells=#[v]→concs σ η a.cells=some v.cells.toList∧allOne v.cells.toList=true:=by
    intro a v ho h e1 e2
    rw [e1,e2]
    exact ⟨concs_cons.2 ⟨v,[],h,rfl,rfl⟩,by simp [allOne,conc_one h,ho]⟩
  cases a with
  | agg l=>obtain ⟨vs,h1,h2,rfl⟩:=conc_agg.1 h;exact ⟨by simpa [AV.cells,Value.cells] using h1,by simpa [Value.cells] using h2⟩
  | tup l=>cases hl
  | sym i =>
    have ho:=conc_one h
    refine one rfl h rfl ?_
    cases v <;> first | rfl | (simp [Value.oneCell',AV.one] at ho)
  | _ =>
    have ho:=conc_one h
    refine one rfl h rfl ?_
    cases v <;> first | rfl | (simp [Value.oneCell',AV.one] at ho)

theorem info_of_size {t:TypeId}{n:Nat}(h:size? P t=some n):(sizeOf t:Sem Nat).run P=fun w=>.ok n w:=by
  funext w
  simp only [size?,Option.map_eq_some_iff] at h
  obtain ⟨i,hi,rfl⟩:=h
  simp [sizeOf,typeInfo,hi]
theorem run_sizeOf? {t:TypeId}{n:Nat}(h:size? P t=some n)(w:World):(sizeOf t).run P w = .ok n w:=congrFun (info_of_size h) w
theorem cellsOf_of {t:TypeId}{n:Nat}(h:size? P t=some n):P.cellsOf t=n:=by
  simp only [size?,Option.map_eq_some_iff] at h
  obtain ⟨i,hi,rfl⟩:=h
  simp [Program.cellsOf,hi]
theorem run_zero? {t:TypeId}{z:AV}(h:zero? P t=some z):∃ v,(∀ σ η,conc σ η z=some v)∧z.laid=true∧∀ w,(zeroValue t).run P w = .ok v w:=by
  simp only [zero?,Option.bind_eq_some_iff] at h
  obtain ⟨i,hi,v,hv,x,hx,hb⟩:=h
  cases e:x.laid with
  | false=>simp [e] at hb
  | true =>
    simp only [e,cond_true,Option.some.injEq] at hb
    subst hb
    exact ⟨v,fun σ η=>ofV_ok σ η hx,e,fun w=>by simp [zeroValue,typeInfo,hi,hv]⟩
theorem run_agg? {t:TypeId}{b:Bool}(h:agg? P t=some b)(w:World):(isAgg t).run P w = .ok b w:=by
  simp only [agg?,Option.map_eq_some_iff] at h
  obtain ⟨d,hd,rfl⟩:=h
  simp only [isAgg,Sem.run_bind,run_underlying hd,Result.andThen_ok]
  cases d <;> rfl

/-! ### rows -/
theorem nth_eq:∀ (l:List AV)(n:Nat),nth l n=l[n]?
  | [],_=>by simp [nth]
  | x::l,0=>by simp [nth]
  | x::l,n+1=>by simp [nth,nth_eq l n]
theorem drop'_eq:∀ (l:List AV)(n:Nat),drop' l n=l.drop n
  | [],_=>by simp [drop']
  | x::l,0=>by simp [drop']
  | x::l,n+1=>by simp [drop',drop'_eq l n]
theorem take?_eq:∀ {l:List AV}{n:Nat}{r:List AV},take? l n=some r→r=l.take n∧n≤l.length
  | l,0,r,h=>by cases l <;> simp [take?] at h <;> subst h <;> simp
  | [],n+1,r,h=>by simp [take?] at h
  | x :: l, n + 1, r, h => by
    simp only [take?,Option.map_eq_some_iff] at h
    obtain ⟨a,h1,rfl⟩:=h
    obtain ⟨rfl,h2⟩:=take?_eq h1
    simp [h2]
theorem row?_eq {l:List AV}{o n:Nat}{r:List AV}(h:row? l o n=some r):r=(l.drop o).take n∧r.length=n∧(0<n→o+n≤l.length):=by
  unfold row? at h
  rw [drop'_eq] at h
  obtain ⟨h1,h2⟩:=take?_eq h
  rw [List.length_drop] at h2
  refine ⟨h1,by rw [h1];simp;omega,by omega⟩
theorem concs_drop:∀ {l:List AV}{r:List Value}(n:Nat),concs σ η l=some r→concs σ η (l.drop n)=some (r.drop n)
  | l,r,0,h=>by simpa using h
  | [],r,n+1,h=>by simp [concs] at h;subst h;simp [concs]
  | x::l,r,n+1,h=>by obtain ⟨v,vs,_,h2,rfl⟩:=concs_cons.1 h;simpa using concs_drop n h2
theorem concs_take:∀ {l:List AV}{r:List Value}(n:Nat),concs σ η l=some r→concs σ η (l.take n)=some (r.take n)
  | l,r,0,h=>by simp [concs]
  | [],r,n+1,h=>by simp [concs] at h;subst h;simp [concs]
  | x::l,r,n+1,h=>by obtain ⟨v,vs,h1,h2,rfl⟩:=concs_cons.1 h;simpa using concs_cons.2 ⟨_,_,h1,concs_take n h2,rfl⟩
theorem concs_row {l:List AV}{r:List Value}{o n:Nat}{a:List AV}(h:concs σ η l=some r)(k:row? l o n=some a):concs σ η a=some ((r.drop o).take n)∧a.length=n∧(0<n→o+n≤r.length):=by
  obtain ⟨rfl,h2,h3⟩:=row?_eq k
  rw [concs_length h]
  exact ⟨concs_take n (concs_drop o h),h2,h3⟩

def layL (L:List Value)(o:Nat)(V:List Value):List Value:=L.take o++V++L.drop (o+V.length)
theorem lay?_ok:∀ {l:List AV}{o:Nat}{vs r:List AV}{L V:List Value},lay? l o vs=some r→concs σ η l=some L→concs σ η vs=some V→concs σ η r=some (layL L o V)∧o+V.length≤L.length∧r.length=l.length
  | l, 0, [], r, L, V, h, h1, h2 => by
    simp [lay?] at h;subst h;simp [concs] at h2;subst h2
    exact ⟨by simpa [layL] using h1,by simp,rfl⟩
  | [],0,v::vs,r,L,V,h,h1,h2=>by simp [lay?] at h
  | x :: l, 0, v :: vs, r, L, V, h, h1, h2 => by
    simp only [lay?,Option.map_eq_some_iff] at h
    obtain ⟨a,h3,rfl⟩:=h
    obtain ⟨u,us,h4,h5,rfl⟩:=concs_cons.1 h1
    obtain ⟨y,ys,h6,h7,rfl⟩:=concs_cons.1 h2
    obtain ⟨h8,h9,h10⟩:=lay?_ok h3 h5 h7
    refine ⟨concs_cons.2 ⟨_,_,h6,h8,?_⟩,by simp at h9 ⊢;omega,by simp [h10]⟩
    simp [layL,Nat.add_comm]
  | [],o+1,vs,r,L,V,h,h1,h2=>by simp [lay?] at h
  | x :: l, o + 1, vs, r, L, V, h, h1, h2 => by
    simp only [lay?,Option.map_eq_some_iff] at h
    obtain ⟨a,h3,rfl⟩:=h
    obtain ⟨u,us,h4,h5,rfl⟩:=concs_cons.1 h1
    obtain ⟨h8,h9,h10⟩:=lay?_ok h3 h5 h2
    refine ⟨concs_cons.2 ⟨_,_,h4,h8,?_⟩,by simp at h9 ⊢;omega,by simp [h10]⟩
    simp only [layL,List.take_succ_cons,List.cons_append]
    congr 1
    rw [Nat.add_right_comm,List.drop_succ_cons]
theorem layL_length {L V:List Value}{o:Nat}(h:o+V.length≤L.length):(layL L o V).length=L.length:=by
  simp [layL];omega
theorem layL_one {L V:List Value}{o:Nat}(h1:allOne L=true)(h2:allOne V=true):allOne (layL L o V)=true:=by
  rw [allOne_iff] at h1 h2
  simp only [layL,allOne_append]
  refine ⟨⟨allOne_iff.2 fun v hv=>h1 v (List.mem_of_mem_take hv),allOne_iff.2 h2⟩,allOne_iff.2 fun v hv=>h1 v (List.mem_of_mem_drop hv)⟩

theorem fold_lay:∀ (V:List Value)(A:Array Value)(off j:Nat),off+j+V.length≤A.size →
    ((V.zipIdx j).foldl (fun (cs:Array Value)(x:Value × Nat)=>cs.setIfInBounds (off+x.2) x.1) A).toList=layL A.toList (off+j) V
  | [],A,off,j,_=>by simp [layL]
  | v :: V, A, off, j, h => by
    simp only [List.zipIdx_cons,List.foldl_cons]
    simp only [List.length_cons] at h
    rw [fold_lay V _ off (j+1) (by simp;omega)]
    have hl:off+j<A.toList.length:=by simp;omega
    simp only [layL,Array.toList_setIfInBounds]
    have e1:(A.toList.set (off+j) v).take (off+(j+1))=A.toList.take (off+j)++[v]:=by
      rw [← Nat.add_assoc,List.take_succ_eq_append_getElem (by simpa using hl)]
      simp [List.take_set]
      exact List.set_eq_of_length_le (by simp;omega)
    have e2:(A.toList.set (off+j) v).drop (off+(j+1)+V.length)=A.toList.drop (off+j+(v::V).length):=by
      rw [List.drop_set_of_lt (by omega)]
      simp only [List.length_cons]
      congr 1
      omega
    rw [e1,e2]
    simp
end
/- An evaluator of closed runs: structs, arrays, addresses, texts, and all operations that are reckoned by their operands alone. -/
section
variable {σ σ':Sig}{η:Env}{P:Program}

/-- Parts beside their places. -/
def PartsR (σ:Sig)(η:Env):List (Nat × AV)→List (Nat × Value)→Prop
  | [],[]=>True
  | (i,a)::l,(j,v)::r=>i=j∧conc σ η a=some v∧PartsR σ η l r
  | _,_=>False

theorem fillA_ok {pl:List (Nat × Nat)}{place:Nat→Option (Nat × Nat)}(hp:∀ i x,pl[i]? = some x→place i=some x):∀ {parts:List (Nat × AV)}{ps:List (Nat × Value)}{cs r:List AV}{C:Array Value},fillA pl cs parts=some r→PartsR σ η parts ps →
    concs σ η cs=some C.toList→allOne C.toList=true→∃ R:Array Value,Instr.fill place C ps=some R∧concs σ η r=some R.toList∧allOne R.toList=true∧R.size=C.size
  | [],[],cs,r,C,h,_,h1,h2=>by simp [fillA] at h;subst h;exact ⟨C,rfl,h1,h2,rfl⟩
  | (i, a) :: parts, (j, v) :: ps, cs, r, C, h, hr, h1, h2 => by
    obtain ⟨rfl,ha,hr⟩:=hr
    simp only [fillA] at h
    cases e:pl[i]? with
    | none=>simp [e] at h
    | some x =>
      obtain ⟨off,size⟩:=x
      simp only [e] at h
      cases ec:(Nat.beq a.cells.length size && a.laid) with
      | false=>simp [ec] at h
      | true =>
        simp only [ec,cond_true,Option.bind_eq_some_iff] at h
        rw [Bool.and_eq_true] at ec
        obtain ⟨cs1,h3,h4⟩:=h
        obtain ⟨k1,k2⟩:=cells_ok ha ec.2
        obtain ⟨l1,l2,l3⟩:=lay?_ok h3 h1 k1
        have hsz:v.cells.size=size:=by
          have:=concs_length k1
          rw [Nat.eq_of_beq_eq_true ec.1] at this
          simpa using this
        have hf:=fold_lay v.cells.toList C off 0 (by simpa using l2)
        simp only [Nat.add_zero] at hf
        obtain ⟨R,r1,r2,r3,r4⟩:=fillA_ok hp (C:=⟨layL C.toList off v.cells.toList⟩) h4 hr (by simpa using l1) (by simpa using layL_one h2 k2)
        refine ⟨R,?_,r2,r3,?_⟩
        · simp only [Instr.fill, hp i _ e]
          have c1:(decide (v.cells.size≠size) || decide (off+v.cells.size > C.size))=false:=by
            simp [hsz];simp [hsz] at l2;omega
          rw [c1]
          simp only [Bool.false_eq_true,if_false]
          rw [← r1]
          congr 1
          have:v.cells.zipIdx.foldl (fun (cs:Array Value) (x:Value × Nat)=>cs.setIfInBounds (off+x.2) x.1) C=(v.cells.toList.zipIdx 0).foldl (fun (cs:Array Value) (x:Value × Nat)=>cs.setIfInBounds (off+x.2) x.1) C:=by
            rw [← Array.foldl_toList,Array.toList_zipIdx]
          rw [← hf]
          simp only [← this]
        · rw [r4];have:=layL_length l2;simpa using this
  | [],_::_,_,_,_,_,hr,_,_=>hr.elim
  | _::_,[],_,_,_,_,hr,_,_=>hr.elim

theorem places_ok:∀ {fs:List Field}{pl:List (Nat × Nat)},places? P fs=some pl→∀ w,(fs.mapM (fun f=>(do pure (f.offset,← sizeOf f.type):Sem (Nat × Nat)))).run P w = .ok pl w
  | [],pl,h,w=>by simp [places?] at h;subst h;rfl
  | f :: fs, pl, h, w => by
    simp only [places?] at h
    split at h
    · rename_i n l e1 e2
      cases h
      simp only [List.mapM_cons,Sem.run_bind,run_sizeOf? e1,Result.andThen_ok,Sem.run_pure,places_ok e2 w]
    · cases h

theorem arrPlaces_get (z:Nat):∀ (n i j:Nat),(arrPlaces z i n)[j]? = if j<n then some ((i+j) * z,z) else none
  | 0,i,j=>by simp [arrPlaces]
  | n+1,i,0=>by simp [arrPlaces]
  | n + 1, i, j + 1 => by
    simp only [arrPlaces,List.getElem?_cons_succ,arrPlaces_get z n]
    have:i+1+j=i+(j+1):=by omega
    rw [this];simp

theorem aBuild_ok {t:TypeId}{parts:List (Nat × AV)}{ps:Array (Nat × Value)}{r:AV}(h:aBuild P t parts=some r)(hp:PartsR σ η parts ps.toList):∃ u,conc σ η r=some u∧∀ w,(Instr.build t ps).run P w = .ok u w:=by
  unfold aBuild at h
  cases ez:zero? P t with
  | none=>simp [ez] at h
  | some z =>
    simp only [ez] at h
    obtain ⟨zv,z1,z2,z3⟩:=run_zero? ez
    obtain ⟨c1,c2⟩:=cells_ok (z1 σ η) z2
    split at h
    · rename_i fs hu
      cases ep:places? P fs.toList with
      | none=>simp [ep] at h
      | some pl =>
        simp only [ep,Option.map_eq_some_iff] at h
        obtain ⟨cs,h1,rfl⟩:=h
        obtain ⟨R,r1,r2,r3,_⟩:=fillA_ok (place:=fun i=>pl.toArray[i]?) (by intro i x hx;simpa using hx) h1 hp c1 c2
        refine ⟨_,conc_agg.2 ⟨_,r2,r3,rfl⟩,fun w=>?_⟩
        have hm:(fs.mapM (fun f=>(do pure (f.offset,← sizeOf f.type):Sem (Nat × Nat)))).run P w = .ok pl.toArray w:=by
          rw [← Array.toArray_toList (xs:=fs),List.mapM_toArray,Sem.run_map,places_ok ep w];rfl
        simp only [Instr.build,Sem.run_bind,z3,Result.andThen_ok,run_underlying hu,hm,r1,Sem.run_pure,Array.toArray_toList]
    · rename_i n e hu
      cases es:size? P e with
      | none=>simp [es] at h
      | some s =>
        simp only [es,Option.map_eq_some_iff] at h
        obtain ⟨cs,h1,rfl⟩:=h
        obtain ⟨R,r1,r2,r3,_⟩:=fillA_ok (place:=fun i=>some (i * s,s)) (by
          intro i x hx;rw [arrPlaces_get] at hx;split at hx <;> simp at hx;rw [← hx]) h1 hp c1 c2
        refine ⟨_,conc_agg.2 ⟨_,r2,r3,rfl⟩,fun w=>?_⟩
        simp only [Instr.build,Sem.run_bind,z3,Result.andThen_ok,run_underlying hu,run_sizeOf? es,r1,Sem.run_pure,Array.toArray_toList]
    · cases h

theorem aPart_ok {t:TypeId}{cs:List AV}{o:Nat}{r:AV}{C:Array Value}(h:aPart P t cs o=some r)(hc:concs σ η cs=some C.toList)(h1:allOne C.toList=true):∃ u,conc σ η r=some u∧∀ w,(part t C o).run P w = .ok u w:=by
  unfold aPart at h
  split at h
  · rename_i n ea es
    simp only [Option.map_eq_some_iff] at h
    obtain ⟨a,ha,rfl⟩:=h
    obtain ⟨k1,k2,k3⟩:=concs_row hc ha
    refine ⟨_,conc_agg.2 ⟨_,k1,allOne_iff.2 fun v hv=>allOne_iff.1 h1 v (List.mem_of_mem_drop (List.mem_of_mem_take hv)),rfl⟩,fun w=>?_⟩
    simp only [part,Sem.run_bind,run_agg? ea,Result.andThen_ok,if_true,run_sizeOf? es,Sem.run_pure]
    congr 2
    apply Array.toList_inj.1
    simp [Array.toList_extract,List.take_drop]
  · rename_i ea
    rw [nth_eq] at h
    obtain ⟨v,h2,h3⟩:=(concs_get hc o).2 r h
    refine ⟨v,h3,fun w=>?_⟩
    have:C[o]? = some v:=by simpa using h2
    simp only [part,Sem.run_bind,run_agg? ea,Result.andThen_ok,Bool.false_eq_true,if_false,this,Sem.run_pure]
  · cases h
end
/- An evaluator of closed runs: addresses, slices, texts. -/
section
variable {σ σ':Sig}{η:Env}{P:Program}

theorem add_plain (b o n:Nat):(⟨b,o,none⟩:Addr).add n=⟨b,o+n,none⟩:=by
  unfold Addr.add;split
  · rename_i h;subst h;rfl
  · rfl
theorem idx?_ok {a:AV}{i:Nat}{u:Value}(h:idx? a=some i)(ha:conc σ η a=some u):∃ k,u = .int k (Int.ofNat i):=by
  unfold idx? at h
  split at h
  · cases h;exact ⟨_,conc_int.1 ha⟩
  · cases h

theorem aField_ok {t:TypeId}{x r:AV}{i:Nat}{u:Value}(h:aField P t x i=some r)(ha:conc σ η x=some u):∃ z,conc σ η r=some z∧∀ w,(Instr.field t u i).run P w = .ok z w:=by
  unfold aField at h
  split at h
  · rename_i fs cs hu
    obtain ⟨vs,h1,h2,rfl⟩:=conc_agg.1 ha
    cases ef:fs[i]? with
    | none=>simp [ef] at h
    | some f =>
      simp only [ef] at h
      obtain ⟨z,z1,z2⟩:=aPart_ok (C:=vs.toArray) h (by simpa using h1) (by simpa using h2)
      exact ⟨z,z1,fun w=>by simp [Instr.field,run_underlying hu,ef,asAgg,z2]⟩
  · cases h

theorem aFieldAddr_ok {t:TypeId}{x r:AV}{i:Nat}{u:Value}(h:aFieldAddr P t x i=some r)(ha:conc σ η x=some u):∃ z,conc σ η r=some z∧∀ w,(Instr.fieldAt t u i).run P w = .ok z w:=by
  unfold aFieldAddr at h
  split at h
  · rename_i fs n o hu
    obtain ⟨l,h1,rfl⟩:=conc_ptr.1 ha
    cases ef:fs[i]? with
    | none=>simp [ef] at h
    | some f =>
      simp only [ef] at h
      cases es:size? P f.type with
      | none=>simp [es] at h
      | some s =>
        cases s with
        | zero=>simp [es] at h
        | succ s =>
          simp only [es,Option.some.injEq] at h
          subst h
          exact ⟨_,conc_ptr.2 ⟨l,h1,rfl⟩,fun w=>by simp [Instr.fieldAt,run_underlying hu,ef,Instr.sureAddr,fieldPlace,run_sizeOf? es,add_plain,Nat.add_assoc]⟩
  · cases h

theorem aIndexAddr_ok {t:TypeId}{x i r:AV}{u v:Value}(h:aIndexAddr P t x i=some r)(ha:conc σ η x=some u)(hi:conc σ η i=some v):∃ z,conc σ η r=some z∧∀ w,(Instr.indexAt t u v).run P w = .ok z w:=by
  unfold aIndexAddr at h
  cases ei:idx? i with
  | none=>simp [ei] at h
  | some n =>
    simp only [ei] at h
    obtain ⟨k,rfl⟩:=idx?_ok ei hi
    split at h
    · rename_i len e nm o hu
      obtain ⟨l,h1,rfl⟩:=conc_ptr.1 ha
      cases eb:Nat.ble (n+1) len with
      | false=>simp [eb] at h
      | true =>
        have hb:=Nat.le_of_ble_eq_true eb
        simp only [eb,cond_true,Option.map_eq_some_iff] at h
        obtain ⟨s,es,rfl⟩:=h
        refine ⟨_,conc_ptr.2 ⟨l,h1,rfl⟩,fun w=>?_⟩
        have c1:(0:Int)≤Int.ofNat n∧Int.ofNat n<(len:Int):=by simp only [Int.ofNat_eq_natCast];omega
        simp only [Instr.indexAt,asIntOf,Sem.run_bind,Sem.run_pure,Result.andThen_ok,run_underlying hu,Instr.sureAddr,if_pos c1,run_sizeOf? es,add_plain]
        simp [Nat.add_assoc]
    · rename_i e nm o len cap fl hu
      obtain ⟨l,h1,rfl⟩:=conc_slice.1 ha
      cases eb:Nat.ble (n+1) len with
      | false=>simp [eb] at h
      | true =>
        have hb:=Nat.le_of_ble_eq_true eb
        simp only [eb,cond_true,Option.map_eq_some_iff] at h
        obtain ⟨s,es,rfl⟩:=h
        refine ⟨_,conc_ptr.2 ⟨l,h1,rfl⟩,fun w=>?_⟩
        have c1:(0:Int)≤Int.ofNat n∧Int.ofNat n<(len:Int):=by simp only [Int.ofNat_eq_natCast];omega
        simp only [Instr.indexAt,asIntOf,Sem.run_bind,Sem.run_pure,Result.andThen_ok,run_underlying hu,if_pos c1,run_sizeOf? es,add_plain]
        simp [Nat.add_assoc]
    · cases h

theorem nsNth_eq:∀ (l:List Nat)(n:Nat),nsNth l n=l[n]?
  | [],_=>by simp [nsNth]
  | x::l,0=>by simp [nsNth]
  | x::l,n+1=>by simp [nsNth,nsNth_eq l n]
theorem nsDrop_eq:∀ (l:List Nat)(n:Nat),nsDrop l n=l.drop n
  | [],_=>by simp [nsDrop]
  | x::l,0=>by simp [nsDrop]
  | x::l,n+1=>by simp [nsDrop,nsDrop_eq l n]
theorem nsTake_eq:∀ (l:List Nat)(n:Nat),nsTake l n=l.take n
  | [],_=>by simp [nsTake]
  | x::l,0=>by simp [nsTake]
  | x::l,n+1=>by simp [nsTake,nsTake_eq l n]
theorem bs_get (l:List Nat)(n:Nat):(bs l)[n]? = (l[n]?).map Nat.toUInt8:=by
  by_cases h:n<l.length
  · rw [ByteArray.getElem?_lt' _ _ (by rw [bs_size]; exact h)]
    rw [List.getElem?_eq_getElem h]
    simp only [Option.map_some,Option.some.injEq]
    show (bs l).data[n]'(by simp [bs];exact h)=_
    simp [bs]
  · rw [ByteArray.getElem?_ge' _ _ (by rw [bs_size];exact h),List.getElem?_eq_none (by omega)];rfl
theorem bs_extract (l:List Nat)(a b:Nat):(bs l).extract a b=bs ((l.drop a).take (b - a)):=by
  have:((bs l).extract a b).data=(bs ((l.drop a).take (b - a))).data:=by
    simp [bs,ByteArray.data_extract,List.map_take,List.map_drop]
  cases h:(bs l).extract a b;cases h':bs ((l.drop a).take (b - a));simp_all
theorem allB_sub {l r:List Nat}(h:allB l=true)(k:∀ x∈r,x∈l):allB r=true:=by
  simp only [allB,List.all_eq_true] at h ⊢;exact fun x hx=>h x (k x hx)

theorem aIndex_ok {t:TypeId}{x i r:AV}{u v:Value}(h:aIndex P t x i=some r)(ha:conc σ η x=some u)(hi:conc σ η i=some v):∃ z,conc σ η r=some z∧∀ w,(Instr.index t u v).run P w = .ok z w:=by
  unfold aIndex at h
  cases ei:idx? i with
  | none=>simp [ei] at h
  | some n =>
    simp only [ei] at h
    obtain ⟨k,rfl⟩:=idx?_ok ei hi
    split at h
    · rename_i len e cs hu
      obtain ⟨vs,h1,h2,rfl⟩:=conc_agg.1 ha
      cases eb:Nat.ble (n+1) len with
      | false=>simp [eb] at h
      | true =>
        have hb:=Nat.le_of_ble_eq_true eb
        simp only [eb,cond_true,Option.bind_eq_some_iff] at h
        obtain ⟨s,es,hp⟩:=h
        obtain ⟨z,z1,z2⟩:=aPart_ok (C:=vs.toArray) hp (by simpa using h1) (by simpa using h2)
        refine ⟨z,z1,fun w=>?_⟩
        have c1:(0:Int)≤Int.ofNat n∧Int.ofNat n<(len:Int):=by simp only [Int.ofNat_eq_natCast];omega
        simp only [Instr.index,asIntOf,Sem.run_bind,Sem.run_pure,Result.andThen_ok,run_underlying hu,if_pos c1,run_sizeOf? es]
        exact z2 w
    · rename_i s hu
      obtain ⟨h1,rfl⟩:=conc_str.1 ha
      rw [nsNth_eq] at h
      simp only [Option.map_eq_some_iff] at h
      obtain ⟨b,hb,rfl⟩:=h
      have hlt:b<256:=by
        simp only [allB,List.all_eq_true,decide_eq_true_eq] at h1
        exact h1 b (List.mem_of_getElem? hb)
      refine ⟨_,conc_int.2 rfl,fun w=>?_⟩
      have c1:(0:Int)≤Int.ofNat n:=by simp
      simp only [Instr.index,asIntOf,Sem.run_bind,Sem.run_pure,Result.andThen_ok,run_underlying hu,if_pos c1]
      have:(bs s)[(Int.ofNat n).toNat]? = some b.toUInt8:=by
        show (bs s)[n]? = _
        rw [bs_get,hb];rfl
      rw [this]
      simp only [Sem.run_pure,u8_toNat hlt]
      rfl
    · cases h

/-- Bounds, of options of values. -/
def OptR (σ:Sig)(η:Env):Option AV→Option Value→Prop
  | none,none=>True
  | some a,some v=>conc σ η a=some v
  | _,_=>False

theorem run_sliceBound {x:Value}{k:IntKind}{i y:Nat}{cd:BoundsCode}(hx:x = .int k (Int.ofNat i))(h:i≤y)(w:World):(Instr.sliceBound x y cd).run P w = .ok i w:=by
  subst hx
  have c1:(0:Int)≤Int.ofNat i∧Int.ofNat i≤(y:Int):=by simp only [Int.ofNat_eq_natCast];omega
  simp only [Instr.sliceBound,asIntOf,Sem.run_bind,Sem.run_pure,Result.andThen_ok,if_pos c1]
  rfl

def mxm {α β:Type}(o:Option α)(a b:β):β:=match o with | none=>a | some _=>b

theorem aBounds_ok {len cap s l h m:Nat}{lo hi mx:Option AV}{lo' hi' mx':Option Value}{isS:Bool}(e:aBounds len cap lo hi mx=some (l,h,m))(h1:OptR σ η lo lo')(h2:OptR σ η hi hi')(h3:OptR σ η mx mx')(hl:hi=none→len≤cap) :
    (∀ w,(Instr.sliceBounds isS len (cap+s) lo' hi' mx').run P w = .ok (l,h,mxm mx (m+s) m) w)∧l≤h∧h≤m∧m≤cap∧(mx=none→m=cap):=by
  unfold aBounds at e
  simp only [Option.bind_eq_some_iff] at e
  obtain ⟨m1,e1,h0,e2,l0,e3,e4⟩:=e
  simp only [Option.some.injEq,Prod.mk.injEq] at e4
  obtain ⟨rfl,rfl,rfl⟩:=e4
  have bound:∀ {a:AV} {v:Value} {y n:Nat},((idx? a).bind fun n=>bif Nat.ble n y then some n else none)=some n→conc σ η a=some v→n≤y∧∃ k,v = .int k (Int.ofNat n):=by
    intro a v y n hb hc
    simp only [Option.bind_eq_some_iff] at hb
    obtain ⟨q,q1,q2⟩:=hb
    cases eb:Nat.ble q y with
    | false=>simp [eb] at q2
    | true=>simp only [eb,cond_true,Option.some.injEq] at q2;subst q2;exact ⟨Nat.le_of_ble_eq_true eb,idx?_ok q1 hc⟩
  have hlo:l0≤h0∧(lo'=none∧l0=0∨∃ k,lo'=some (.int k (Int.ofNat l0))):=by
    cases lo with
    | none => cases lo' with
      | some _=>exact h1.elim
      | none=>simp only [Option.some.injEq] at e3;subst e3;exact ⟨Nat.zero_le _,.inl ⟨rfl,rfl⟩⟩
    | some a => cases lo' with
      | none=>exact h1.elim
      | some v=>obtain ⟨q1,k,q2⟩:=bound e3 h1;exact ⟨q1,.inr ⟨k,by rw [q2]⟩⟩
  cases mx with
  | none =>
    cases mx' with
    | some _=>exact h3.elim
    | none =>
      simp only [Option.some.injEq] at e1
      subst e1
      have hhi:h0≤cap∧(hi'=none∧h0=len∨∃ k,hi'=some (.int k (Int.ofNat h0))):=by
        cases hi with
        | none => cases hi' with
          | some _=>exact h2.elim
          | none=>simp only [Option.some.injEq] at e2;subst e2;exact ⟨hl rfl,.inl ⟨rfl,rfl⟩⟩
        | some a => cases hi' with
          | none=>exact h2.elim
          | some v=>obtain ⟨q1,k,q2⟩:=bound e2 h2;exact ⟨q1,.inr ⟨k,by rw [q2]⟩⟩
      have hc:=hhi.1
      refine ⟨fun w=>?_,hlo.1,hhi.1,Nat.le_refl _,fun _=>rfl⟩
      rcases hlo with ⟨ql,⟨rfl,rfl⟩ | ⟨k,rfl⟩⟩ <;> rcases hhi with ⟨qh,⟨rfl,rfl⟩ | ⟨k',rfl⟩⟩
      · simp only [mxm,Instr.sliceBounds,Sem.run_bind,Sem.run_pure,Result.andThen_ok]
      · simp only [mxm,Instr.sliceBounds,Sem.run_bind,Sem.run_pure,Result.andThen_ok,run_sliceBound (P:=P) rfl (Nat.le_trans hc (Nat.le_add_right cap s))]
      · simp only [mxm,Instr.sliceBounds,Sem.run_bind,Sem.run_pure,Result.andThen_ok,run_sliceBound (P:=P) rfl ql]
      · simp only [mxm,Instr.sliceBounds,Sem.run_bind,Sem.run_pure,Result.andThen_ok,run_sliceBound (P:=P) rfl (Nat.le_trans hc (Nat.le_add_right cap s)),run_sliceBound (P:=P) rfl ql]
  | some am =>
    cases mx' with
    | none=>exact h3.elim
    | some vm =>
      obtain ⟨m1',km,rfl⟩:=bound e1 h3
      cases hi with
      | none=>simp at e2
      | some a => cases hi' with
        | none=>exact h2.elim
        | some v =>
          obtain ⟨qh,k',rfl⟩:=bound e2 h2
          refine ⟨fun w=>?_,hlo.1,qh,m1',fun e=>by cases e⟩
          rcases hlo with ⟨ql,⟨rfl,rfl⟩ | ⟨k,rfl⟩⟩
          · simp only [mxm,Instr.sliceBounds,Sem.run_bind,Sem.run_pure,Result.andThen_ok,run_sliceBound (P:=P) rfl (Nat.le_trans m1' (Nat.le_add_right cap s)),run_sliceBound (P:=P) rfl qh]
          · simp only [mxm,Instr.sliceBounds,Sem.run_bind,Sem.run_pure,Result.andThen_ok,run_sliceBound (P:=P) rfl (Nat.le_trans m1' (Nat.le_add_right cap s)),run_sliceBound (P:=P) rfl qh,run_sliceBound (P:=P) rfl ql]

theorem aSlice_ok {t:TypeId}{x r:AV}{lo hi mx:Option AV}{u:Value}{lo' hi' mx':Option Value}(h:aSlice P t x lo hi mx=some r)(ha:conc σ η x=some u)(h1:OptR σ η lo lo')(h2:OptR σ η hi hi')(h3:OptR σ η mx mx') :
    ∃ z,conc σ η r=some z∧∀ w,(Instr.sliceAt t u lo' hi' mx').run P w = .ok z w:=by
  unfold aSlice at h
  split at h
  · rename_i s hu
    cases mx with
    | some _=>simp at h
    | none =>
      cases mx' with
      | some _=>exact h3.elim
      | none =>
        simp only [Option.bind_eq_some_iff] at h
        obtain ⟨⟨l,hh,m⟩,hb,h⟩:=h
        simp only [fNats_eq,Option.some.injEq] at h
        subst h
        obtain ⟨b1,rfl⟩:=conc_str.1 ha
        obtain ⟨k1,k2,k3,k4,k5⟩:=aBounds_ok (P:=P) (s:=0) (isS:=false) hb h1 h2 (show OptR σ η none none from trivial) (fun _=>Nat.le_refl _)
        refine ⟨.string ((bs s).extract l hh),?_,fun w=>?_⟩
        · rw [bs_extract, nsTake_eq, nsDrop_eq]
          exact conc_str.2 ⟨allB_sub b1 fun x hx=>List.mem_of_mem_drop (List.mem_of_mem_take hx),rfl⟩
        · have := k1 w
          simp only [Nat.add_zero] at this
          simp only [Instr.sliceAt,Sem.run_bind,run_underlying hu,Result.andThen_ok,Instr.slice,Option.isSome_none,Bool.false_eq_true,if_false,bs_size,this,Sem.run_pure]
  · rename_i e n o len cap fl hu
    obtain ⟨lc,hlc,rfl⟩:=conc_slice.1 ha
    cases hle:Nat.ble len cap with
    | false=>simp [hle] at h
    | true =>
      have hle':=Nat.le_of_ble_eq_true hle
      simp only [hle,Bool.not_true,cond_false,Option.bind_eq_some_iff] at h
      obtain ⟨⟨l,hh,m⟩,hb,s,hs,hr⟩:=h
      obtain ⟨k1,k2,k3,k4,k5⟩:=aBounds_ok (P:=P) (s:=if fl then lc.slack else 0) (isS:=true) hb h1 h2 h3 (fun _=>hle')
      have run:∀ w,(Instr.sliceAt t (.slice (some ⟨lc.blk,lc.off+o,none⟩) len (cap+(if fl then lc.slack else 0))) lo' hi' mx').run P w = .ok (.slice (if (mxm mx (m+(if fl then lc.slack else 0)) m)=l then some ⟨lc.blk,lc.off+o,none⟩ else some ⟨lc.blk,lc.off+o+l * s,none⟩) (hh - l) ((mxm mx (m+(if fl then lc.slack else 0)) m) - l)) w:=by
        intro w
        simp only [Instr.sliceAt,Sem.run_bind,run_underlying hu,Result.andThen_ok,Instr.slice,k1 w,run_sizeOf? hs,Sem.run_pure,Option.map_some,add_plain]
      cases mx with
      | some vm =>
        simp only [Option.some.injEq] at hr
        subst hr
        refine ⟨_,conc_slice.2 ⟨lc,hlc,rfl⟩,fun w=>?_⟩
        rw [run w]
        simp only [mxm]
        cases hm:Nat.beq m l with
        | true=>have:=Nat.eq_of_beq_eq_true hm;simp [this]
        | false => have : m ≠ l := fun q => by subst q; simp at hm
                   simp [this,Nat.add_assoc]
      | none =>
        cases fl with
        | false =>
          simp only [cond_false,Option.some.injEq] at hr
          subst hr
          refine ⟨_,conc_slice.2 ⟨lc,hlc,rfl⟩,fun w=>?_⟩
          rw [run w]
          simp only [mxm]
          cases hm:Nat.beq m l with
          | true=>have:=Nat.eq_of_beq_eq_true hm;simp [this]
          | false => have : m ≠ l := fun q => by subst q; simp at hm
                     simp [this,Nat.add_assoc]
        | true =>
          simp only [cond_true] at hr
          cases hm:(Nat.beq m l && !Nat.beq l 0) with
          | true=>simp [hm] at hr
          | false =>
            simp only [hm,cond_false,Option.some.injEq] at hr
            subst hr
            refine ⟨_,conc_slice.2 ⟨lc,hlc,rfl⟩,fun w=>?_⟩
            rw [run w]
            simp only [mxm,if_true]
            congr 1
            by_cases hq:m+lc.slack=l
            · have h0:l=0:=by
                have:m=l:=by omega
                subst this
                simp at hm
                exact hm
              subst h0
              have hm0:m=0:=by omega
              subst hm0
              simp
            · rw [if_neg hq]
              simp [Nat.add_assoc]
              omega
  · rename_i e hu
    rw [conc_nils] at ha
    subst ha
    simp only [Option.bind_eq_some_iff,Option.map_eq_some_iff] at h
    obtain ⟨⟨l,hh,m⟩,hb,s,hs,rfl⟩:=h
    obtain ⟨k1,k2,k3,k4,k5⟩:=aBounds_ok (P:=P) (s:=0) (isS:=true) hb h1 h2 h3 (fun _=>Nat.le_refl _)
    obtain rfl:m=0:=by omega
    obtain rfl:hh=0:=by omega
    obtain rfl:l=0:=by omega
    refine ⟨_,conc_nils.2 rfl,fun w=>?_⟩
    have:=k1 w
    cases mx <;> simp only [Nat.add_zero,mxm] at this <;> simp [Instr.sliceAt,run_underlying hu,Instr.slice,this,run_sizeOf? hs]
  · rename_i k e n o hu
    obtain ⟨lc,hlc,rfl⟩:=conc_ptr.1 ha
    simp only [Option.bind_eq_some_iff,Option.map_eq_some_iff] at h
    obtain ⟨⟨l,hh,m⟩,hb,s,hs,rfl⟩:=h
    obtain ⟨k1,k2,k3,k4,k5⟩:=aBounds_ok (P:=P) (s:=0) (isS:=false) hb h1 h2 h3 (fun _=>Nat.le_refl _)
    refine ⟨_,conc_slice.2 ⟨lc,hlc,rfl⟩,fun w=>?_⟩
    have:=k1 w
    simp only [Nat.add_zero] at this
    have e':mxm mx m m=m:=by cases mx <;> rfl
    rw [e'] at this
    simp only [Instr.sliceAt,Sem.run_bind,run_underlying hu,Result.andThen_ok,Instr.sureAddr,Sem.run_pure,this,run_sizeOf? hs,add_plain]
    cases hm:Nat.beq m l with
    | true=>have:=Nat.eq_of_beq_eq_true hm;simp [this]
    | false => have : m ≠ l := fun q => by subst q; simp at hm
               simp [this,Nat.add_assoc]
  · cases h
end
end Go.Eng
