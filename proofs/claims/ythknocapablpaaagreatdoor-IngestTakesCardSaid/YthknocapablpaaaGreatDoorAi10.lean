/- A part of the proof. -/
import Derived.Laws.Sem
import Derived.Laws.World
import Derived.Laws.Cells
import Derived.Test.YthknocapablpaaaGreatDoorAi9
namespace Go.Eng
/- An evaluator of closed runs: what its values stand for. -/
section

structure Loc where
  blk:Nat
  off:Nat
  slack:Nat

abbrev Sig:=Nat→Option Loc

/-- What is given: values of which nothing is known; blocks that no one turns. -/
structure Env where
  val:Nat→Value
  blk:Nat→Option Obj

/-- A value of which nothing is known: of one cell, and no bool. -/
def symOk (i:Nat)(v:Value):Bool:=v.oneCell' && (match v with | .bool _=>false | _=>true) && (bif Nat.blt i 1000 then true else match v with
  | .int .i64 n=>bif Nat.beq (Nat.mod i 2) 0 then decide (n≤symB i) else decide (symB i≤n)
  | _=>false)

def allOne:List Value→Bool
  | []=>true
  | v::l=>v.oneCell' && allOne l

mutual
def conc (σ:Sig)(η:Env):AV→Option Value
  | .int k n=>some (.int k n)
  | .bool b=>some (.bool b)
  | .str l=>if l.all (fun b=>decide (b<256)) then some (.string ⟨(l.map Nat.toUInt8).toArray⟩) else none
  | .nilp=>some (.pointer none)
  | .ptr n o=>match σ n with | some l=>some (.pointer (some ⟨l.blk,l.off+o,none⟩)) | none=>none
  | .nils=>some (.slice none 0 0)
  | .slice n o len cap fl=>match σ n with | some l=>some (.slice (some ⟨l.blk,l.off+o,none⟩) len (cap+(if fl then l.slack else 0))) | none=>none
  | .nilm=>some (.map none)
  | .map n=>match σ n with | some l=>some (.map (some l.blk)) | none=>none
  | .func f a b => match concs σ η a, concs σ η b with
    | some a,some b=>some (.func (.func f) a.toArray b.toArray)
    | _,_=>none
  | .nilf=>some .nilFunc
  | .iface t v=>match conc σ η v with | some v=>some (.iface t v) | none=>none
  | .nili=>some .nilIface
  | .agg l=>match concs σ η l with | some vs=>if allOne vs then some (.agg vs.toArray) else none | none=>none
  | .tup l=>match concs σ η l with | some vs=>some (.tuple vs.toArray) | none=>none
  | .sym i=>if symOk i (η.val i) then some (η.val i) else none
  | .yld n=>match σ n with | some l=>some (.func (.yield l.blk) #[] #[]) | none=>none
def concs (σ:Sig)(η:Env):List AV→Option (List Value)
  | []=>some []
  | x :: l => match conc σ η x, concs σ η l with
    | some x,some l=>some (x::l)
    | _,_=>none
end

variable {σ σ':Sig}{η:Env}

theorem concs_cons {x:AV}{l:List AV}{r:List Value}:concs σ η (x::l)=some r ↔ ∃ v vs,conc σ η x=some v∧concs σ η l=some vs∧r=v::vs:=by
  simp only [concs]
  cases conc σ η x <;> cases concs σ η l <;> simp [eq_comm]
theorem concs_length:∀ {l:List AV}{r:List Value},concs σ η l=some r→r.length=l.length
  | [],r,h=>by simp [concs] at h;subst h;rfl
  | x::l,r,h=>by obtain ⟨v,vs,_,h2,rfl⟩:=concs_cons.1 h;simp [concs_length h2]
theorem concs_append {a b:List AV}{x y:List Value}(h:concs σ η a=some x)(k:concs σ η b=some y):concs σ η (a++b)=some (x++y):=by
  induction a generalizing x with
  | nil=>simp [concs] at h;subst h;simpa using k
  | cons u a ih =>
    obtain ⟨v,vs,h1,h2,rfl⟩:=concs_cons.1 h
    exact concs_cons.2 ⟨v,vs++y,h1,ih h2,rfl⟩
theorem concs_get {l:List AV}{r:List Value}(h:concs σ η l=some r)(i:Nat):(∀ v,r[i]? = some v→∃ x,l[i]? = some x∧conc σ η x=some v)∧(∀ x,l[i]? = some x→∃ v,r[i]? = some v∧conc σ η x=some v):=by
  induction l generalizing r i with
  | nil=>simp [concs] at h;subst h;simp
  | cons x l ih =>
    obtain ⟨v,vs,h1,h2,rfl⟩:=concs_cons.1 h
    cases i with
    | zero=>simp [h1]
    | succ i=>simpa using ih h2 i

def Ext (σ σ':Sig):Prop:=∀ n l,σ n=some l→σ' n=some l
theorem Ext.refl (σ:Sig):Ext σ σ:=fun _ _ h=>h
theorem Ext.trans {a b c:Sig}(h:Ext a b)(k:Ext b c):Ext a c:=fun n l e=>k n l (h n l e)

mutual
theorem conc_ext (hx:Ext σ σ'):∀ {a:AV}{v:Value},conc σ η a=some v→conc σ' η a=some v
  | .int k n,v,h=>by simpa [conc] using h
  | .bool b,v,h=>by simpa [conc] using h
  | .str l,v,h=>by simpa [conc] using h
  | .nilp,v,h=>by simpa [conc] using h
  | .nils,v,h=>by simpa [conc] using h
  | .nilm,v,h=>by simpa [conc] using h
  | .nilf,v,h=>by simpa [conc] using h
  | .nili,v,h=>by simpa [conc] using h
  | .sym i,v,h=>by simpa [conc] using h
  | .yld n, v, h => by
    simp only [conc] at h ⊢
    cases e:σ n with
    | none=>simp [e] at h
    | some l=>rw [e] at h;rw [hx n l e];exact h
  | .ptr n o, v, h => by
    simp only [conc] at h ⊢
    cases e:σ n with
    | none=>simp [e] at h
    | some l=>rw [e] at h;rw [hx n l e];exact h
  | .slice n o a b c, v, h => by
    simp only [conc] at h ⊢
    cases e:σ n with
    | none=>simp [e] at h
    | some l=>rw [e] at h;rw [hx n l e];exact h
  | .map n, v, h => by
    simp only [conc] at h ⊢
    cases e:σ n with
    | none=>simp [e] at h
    | some l=>rw [e] at h;rw [hx n l e];exact h
  | .func f a b, v, h => by
    simp only [conc] at h ⊢
    cases e:concs σ η a with
    | none=>simp [e] at h
    | some x =>
      cases e2:concs σ η b with
      | none=>simp [e,e2] at h
      | some y=>rw [e,e2] at h;rw [concs_ext hx e,concs_ext hx e2];exact h
  | .iface t u, v, h => by
    simp only [conc] at h ⊢
    cases e:conc σ η u with
    | none=>simp [e] at h
    | some x=>rw [e] at h;rw [conc_ext hx e];exact h
  | .agg l, v, h => by
    simp only [conc] at h ⊢
    cases e:concs σ η l with
    | none=>simp [e] at h
    | some x=>rw [e] at h;rw [concs_ext hx e];exact h
  | .tup l, v, h => by
    simp only [conc] at h ⊢
    cases e:concs σ η l with
    | none=>simp [e] at h
    | some x=>rw [e] at h;rw [concs_ext hx e];exact h
theorem concs_ext (hx:Ext σ σ'):∀ {l:List AV}{r:List Value},concs σ η l=some r→concs σ' η l=some r
  | [],r,h=>by simpa [concs] using h
  | x :: l, r, h => by
    obtain ⟨v,vs,h1,h2,rfl⟩:=concs_cons.1 h
    exact concs_cons.2 ⟨v,vs,conc_ext hx h1,concs_ext hx h2,rfl⟩
end

/-! ### by value is the same -/
theorem fNat_eq {β:Type}(n:Nat)(k:Nat→β):fNat n k=k n:=by cases n <;> rfl
theorem fInt_eq {β:Type}(n:Int)(k:Int→β):fInt n k=k n:=by cases n <;> simp [fInt,fNat_eq]
theorem fBool_eq {β:Type}(b:Bool)(k:Bool→β):fBool b k=k b:=by cases b <;> rfl
theorem fNats_eq {β:Type}:∀ (l:List Nat)(k:List Nat→β),fNats l k=k l
  | [],_=>rfl
  | x::l,k=>by show fNat x (fun x=>fNats l fun l=>k (x::l))=_;rw [fNat_eq,fNats_eq l]
theorem fSpine_eq {β:Type}:∀ (l:List AV)(k:List AV→β),fSpine l k=k l
  | [],_=>rfl
  | x::l,k=>by show fSpine l (fun l=>k (x::l))=_;rw [fSpine_eq l]
theorem fAV_eq {β:Type}(v:AV):∀ (k:AV→β),fAV v k=k v:=
  AV.rec (motive_1:=fun v=>∀ (k:AV→β),fAV v k=k v) (motive_2:=fun l=>∀ (k:List AV→β),AV.rec_1 (motive_1:=fun _=>(AV→β)→β) (motive_2:=fun _=>(List AV→β)→β)
    (fun k n c=>fInt n fun n=>c (.int k n))
    (fun b c=>fBool b fun b=>c (.bool b))
    (fun l c=>c (.str l))
    (fun c=>c .nilp)
    (fun n o c=>fNat n fun n=>fNat o fun o=>c (.ptr n o))
    (fun c=>c .nils)
    (fun n o len cap flex c=>fNat n fun n=>fNat o fun o=>fNat len fun len=>fNat cap fun cap=>fBool flex fun flex=>c (.slice n o len cap flex))
    (fun c=>c .nilm)
    (fun n c=>fNat n fun n=>c (.map n))
    (fun f _ _ ia ib c=>fNat f fun f=>ia fun a=>ib fun b=>c (.func f a b))
    (fun c=>c .nilf)
    (fun t _ iv c=>iv fun v=>c (.iface t v))
    (fun c=>c .nili)
    (fun _ il c=>il fun l=>c (.agg l))
    (fun _ il c=>il fun l=>c (.tup l))
    (fun i c=>c (.sym i))
    (fun n c=>fNat n fun n=>c (.yld n))
    (fun c=>c [])
    (fun _ _ ix il c=>ix fun x=>il fun l=>c (x::l)) l k=k l)
    (fun k n c=>fInt_eq n fun n=>c (.int k n))
    (fun b c=>fBool_eq b fun b=>c (.bool b))
    (fun _ _=>rfl)
    (fun _=>rfl)
    (fun n o c=>(fNat_eq n fun n=>fNat o fun o=>c (.ptr n o)).trans (fNat_eq o fun o=>c (.ptr n o)))
    (fun _=>rfl)
    (fun n o len cap flex c=>(fNat_eq n fun n=>fNat o fun o=>fNat len fun len=>fNat cap fun cap=>fBool flex fun flex=>c (.slice n o len cap flex)).trans
      ((fNat_eq o fun o=>fNat len fun len=>fNat cap fun cap=>fBool flex fun flex=>c (.slice n o len cap flex)).trans
      ((fNat_eq len fun len=>fNat cap fun cap=>fBool flex fun flex=>c (.slice n o len cap flex)).trans
      ((fNat_eq cap fun cap=>fBool flex fun flex=>c (.slice n o len cap flex)).trans (fBool_eq flex fun flex=>c (.slice n o len cap flex))))))
    (fun _=>rfl)
    (fun n c=>fNat_eq n fun n=>c (.map n))
    (fun f a b ia ib c=>by
      delta fAV
      dsimp only
      rw [fNat_eq]
      exact (ia _).trans (ib _))
    (fun _=>rfl)
    (fun t _ iv c=>iv fun v=>c (.iface t v))
    (fun _=>rfl)
    (fun _ il c=>il fun l=>c (.agg l))
    (fun _ il c=>il fun l=>c (.tup l))
    (fun _ _=>rfl)
    (fun n c=>fNat_eq n fun n=>c (.yld n))
    (fun _=>rfl)
    (fun x l ix il c=>by
      refine (ix _).trans ?_
      exact il fun l=>c (x::l)) v
theorem fAVs_eq {β:Type}:∀ (l:List AV)(k:List AV→β),fAVs l k=k l
  | [],_=>rfl
  | x::l,k=>by show fAV x (fun x=>fAVs l fun l=>k (x::l))=_;rw [fAV_eq,fAVs_eq l]
theorem fEs_eq {β:Type}:∀ (l:List (AV × AV × Nat))(k:List (AV × AV × Nat)→β),fEs l k=k l
  | [],_=>by simp [fEs]
  | (a,b,n)::l,k=>by simp only [fEs,fAV_eq,fNat_eq];rw [fEs_eq l]
theorem setK_eq {α β:Type}(f:Nat):∀ (t:Tr α)(n:Nat)(x:Option α)(k:Tr α→β),Tr.setK f t n x k=k (Tr.set f t n x):=by
  induction f with
  | zero=>intros;rfl
  | succ f ih =>
    intro t n x k
    cases t with
    | nil => cases n with
      | zero=>rfl
      | succ m =>
        show Nat.rec (motive:=fun _=>β) (Tr.setK f .nil (m / 2) x fun l=>k (.node none l .nil)) (fun _ _=>Tr.setK f .nil (m / 2) x fun r=>k (.node none .nil r)) (m % 2)=_
        simp only [Tr.set]
        cases m % 2 <;> first | (simp only [ih];done) | (simp only [ih];rfl)
    | node v l r => cases n with
      | zero=>rfl
      | succ m =>
        show Nat.rec (motive:=fun _=>β) (Tr.setK f l (m / 2) x fun l=>k (.node v l r)) (fun _ _=>Tr.setK f r (m / 2) x fun r=>k (.node v l r)) (m % 2)=_
        simp only [Tr.set]
        cases m % 2 <;> first | (simp only [ih];done) | (simp only [ih];rfl)

theorem aVal_def {P:Program}{ρ:Operand→AV}{h:Heap}{o:Op}:aVal P ρ h o=match aPure P ρ o with | some v=>some v | none=>aRead P ρ h o:=by
  have key:aRead P ρ h o=none→aVal P ρ h o=aPure P ρ o→aVal P ρ h o=match aPure P ρ o with | some v=>some v | none=>aRead P ρ h o:=by
    intro e1 e2
    rw [e1,e2]
    cases aPure P ρ o <;> rfl
  cases o with
  | pick c a b =>
    refine key (by rfl) ?_
    simp only [aVal,aPure]
    unfold vPick
    cases ρ c <;> first | rfl | (rename_i q;cases q <;> rfl)
  | build t ps=>exact key (by rfl) rfl
  | nilCheck x =>
    refine key (by rfl) ?_
    simp only [aVal,aPure]
    unfold vNil
    cases ρ x <;> rfl
  | binOp op t x y z=>exact key (by rfl) rfl
  | unOp op t x=>exact key (by rfl) rfl
  | makeInterface t x =>
    refine key (by rfl) ?_
    simp only [aVal,aPure]
    unfold vIface
    rfl
  | makeFunc fn a b =>
    refine key (by rfl) ?_
    cases fn <;> rfl
  | slice t x lo hi mx=>exact key (by rfl) rfl
  | fieldAddr t x f=>exact key (by rfl) rfl
  | field t x f=>exact key (by rfl) rfl
  | indexAddr t x i=>exact key (by rfl) rfl
  | index t x i=>exact key (by rfl) rfl
  | typeAssert x a b ok=>exact key (by rfl) rfl
  | extract x i =>
    refine key (by rfl) ?_
    simp only [aVal,aPure]
    unfold vExtract
    cases ρ x <;> rfl
  | load t x =>
    simp only [aVal,aPure,aRead]
    unfold vLoad
    cases ρ x <;> rfl
  | _=>rfl
theorem evO_tmp {tm:Tmps}{t:Nat}:evO tm (.tmp t)=match tm.get t with | some v=>v | none=>uv:=by
  show orU (tm.get t)=_
  cases tm.get t <;> rfl
theorem evO_const {tm:Tmps}{v:Value}:evO tm (.const v)=match ofV v with | some v=>v | none=>uv:=by
  show orU (ofV v)=_
  cases ofV v <;> rfl

/-! ### trees -/
theorem Tr.get_nil {α:Type}(n:Nat):(Tr.nil:Tr α).get n=none:=rfl
theorem Tr.get_zero {α:Type}(v:Option α)(l r:Tr α):(Tr.node v l r).get 0=v:=rfl
theorem Tr.get_even {α:Type}(v:Option α)(l r:Tr α)(n:Nat)(h:n % 2=0):(Tr.node v l r).get (n+1)=l.get (n / 2):=by
  show Nat.rec (motive:=fun _=>Option α) (l.get (n / 2)) (fun _ _=>r.get (n / 2)) (n % 2)=_
  rw [h]
  rfl
theorem Tr.get_odd {α:Type}(v:Option α)(l r:Tr α)(n:Nat)(h:n % 2=1):(Tr.node v l r).get (n+1)=r.get (n / 2):=by
  show Nat.rec (motive:=fun _=>Option α) (l.get (n / 2)) (fun _ _=>r.get (n / 2)) (n % 2)=_
  rw [h]
  rfl
theorem Tr.get_set_same {α:Type}:∀ (f:Nat)(t:Tr α)(n:Nat)(x:Option α),n<2 ^ f - 1→(Tr.set f t n x).get n=x
  | 0,_,n,_,h=>by simp at h
  | f+1,.nil,0,x,_=>rfl
  | f+1,.node v l r,0,x,_=>rfl
  | f + 1, .nil, n + 1, x, h => by
    have h2:n / 2<2 ^ f - 1:=by rw [Nat.pow_succ] at h;omega
    simp only [Tr.set]
    rcases Nat.mod_two_eq_zero_or_one n with e | e
    · simp only [e];rw [Tr.get_even _ _ _ _ e];exact Tr.get_set_same f _ _ x h2
    · simp only [e];rw [Tr.get_odd _ _ _ _ e];exact Tr.get_set_same f _ _ x h2
  | f + 1, .node v l r, n + 1, x, h => by
    have h2:n / 2<2 ^ f - 1:=by rw [Nat.pow_succ] at h;omega
    simp only [Tr.set]
    rcases Nat.mod_two_eq_zero_or_one n with e | e
    · simp only [e];rw [Tr.get_even _ _ _ _ e];exact Tr.get_set_same f _ _ x h2
    · simp only [e];rw [Tr.get_odd _ _ _ _ e];exact Tr.get_set_same f _ _ x h2
theorem Tr.get_set_other {α:Type}:∀ (f:Nat)(t:Tr α)(n m:Nat)(x:Option α),n≠m→(Tr.set f t n x).get m=t.get m
  | 0,_,_,_,_,_=>rfl
  | f+1,.nil,0,0,x,h=>absurd rfl h
  | f + 1, .nil, 0, m + 1, x, _ => by
    simp only [Tr.set]
    rcases Nat.mod_two_eq_zero_or_one m with e | e
    · rw [Tr.get_even _ _ _ _ e];rfl
    · rw [Tr.get_odd _ _ _ _ e];rfl
  | f+1,.node v l r,0,0,x,h=>absurd rfl h
  | f+1,.node v l r,0,m+1,x,_=>rfl
  | f + 1, .nil, n + 1, 0, x, _ => by
    simp only [Tr.set]
    cases n % 2 <;> rfl
  | f + 1, .node v l r, n + 1, 0, x, _ => by
    simp only [Tr.set]
    cases n % 2 <;> rfl
  | f + 1, .nil, n + 1, m + 1, x, h => by
    simp only [Tr.set]
    rcases Nat.mod_two_eq_zero_or_one n with e | e <;> rcases Nat.mod_two_eq_zero_or_one m with e' | e' <;> simp only [e]
    · rw [Tr.get_even _ _ _ _ e',Tr.get_set_other f _ _ _ x (by omega),Tr.get_nil,Tr.get_nil]
    · rw [Tr.get_odd _ _ _ _ e',Tr.get_nil,Tr.get_nil]
    · rw [Tr.get_even _ _ _ _ e',Tr.get_nil,Tr.get_nil]
    · rw [Tr.get_odd _ _ _ _ e',Tr.get_set_other f _ _ _ x (by omega),Tr.get_nil,Tr.get_nil]
  | f + 1, .node v l r, n + 1, m + 1, x, h => by
    simp only [Tr.set]
    rcases Nat.mod_two_eq_zero_or_one n with e | e <;> rcases Nat.mod_two_eq_zero_or_one m with e' | e' <;> simp only [e]
    · rw [Tr.get_even _ _ _ _ e',Tr.get_even _ _ _ _ e',Tr.get_set_other f _ _ _ x (by omega)]
    · rw [Tr.get_odd _ _ _ _ e',Tr.get_odd _ _ _ _ e']
    · rw [Tr.get_even _ _ _ _ e',Tr.get_even _ _ _ _ e']
    · rw [Tr.get_odd _ _ _ _ e',Tr.get_odd _ _ _ _ e',Tr.get_set_other f _ _ _ x (by omega)]

end
end Go.Eng
