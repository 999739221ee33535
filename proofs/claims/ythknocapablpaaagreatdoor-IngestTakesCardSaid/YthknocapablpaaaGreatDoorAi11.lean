/- A part of the proof. -/
import Derived.Laws.StructEq
import Derived.Test.YthknocapablpaaaGreatDoorAi10
namespace Go.Eng
/- An evaluator of closed runs: its numbers, texts and comparisons are the model's. -/
section
variable {σ σ':Sig}{η:Env}{P:Program}

theorem ikN_inj {a b:IntKind}:Nat.beq (ikN a) (ikN b)=true ↔ a=b:=by cases a <;> cases b <;> simp [ikN]
theorem iEq_iff {a b:Int}:iEq a b=(a == b):=by
  cases a <;> cases b <;> simp [iEq] <;> first | rfl | (rw [Bool.eq_iff_iff];simp;try omega)
theorem iLe_iff {a b:Int}:iLe a b=decide (a≤b):=by
  rw [Bool.eq_iff_iff,decide_eq_true_iff]
  cases a with
  | ofNat m => cases b with
    | ofNat n=>simp [iLe]
    | negSucc n=>have:=Int.negSucc_lt_zero n;simp only [iLe,Bool.false_eq_true,false_iff,Int.ofNat_eq_natCast];omega
  | negSucc m => cases b with
    | ofNat n=>have:=Int.negSucc_lt_zero m;simp only [iLe,true_iff,Int.ofNat_eq_natCast];omega
    | negSucc n=>simp only [iLe,Nat.ble_eq,Int.negSucc_eq];omega
theorem iLt_iff {a b:Int}:(!iLe b a)=decide (a<b):=by
  rw [iLe_iff,Bool.eq_iff_iff];simp
theorem wrapF_eq (k:IntKind)(n:Int):wrapF k n=k.wrap n:=by
  cases n with
  | negSucc m=>rfl
  | ofNat m =>
    simp only [wrapF]
    cases h:Nat.ble m (ikMax k) with
    | false=>rfl
    | true =>
      simp only [cond_true]
      have h':=Nat.le_of_ble_eq_true h
      cases k <;> simp only [ikMax] at h' <;> simp only [IntKind.wrap,IntKind.bits,IntKind.signed,Bool.true_and,Bool.false_and,Int.ofNat_eq_natCast] <;> (try split) <;> simp_all <;> omega

theorem aInt_ok {op:BinOp}{k:IntKind}{a b:Int}{v:AV}(h:aInt op k a b=some v):∃ u,(∀ σ η,conc σ η v=some u)∧∀ w t,(binOp op t (.int k a) (.int k b)).run P w = .ok u w:=by
  cases op <;> simp only [aInt] at h <;> simp only [binOp,ne_eq,not_true_eq_false,if_false]
  case add=>cases h;exact ⟨_,fun _ _=>by simp [conc];rfl,fun w t=>by simp [Op.intArith,wrapF_eq]⟩
  case sub=>cases h;exact ⟨_,fun _ _=>by simp [conc];rfl,fun w t=>by simp [Op.intArith,wrapF_eq]⟩
  case mul=>cases h;exact ⟨_,fun _ _=>by simp [conc];rfl,fun w t=>by simp [Op.intArith,wrapF_eq]⟩
  case quo=>
    rw [iEq_iff] at h
    cases e:(b == 0) with
    | true=>simp [e] at h
    | false=>simp only [e,cond_false,Option.some.injEq] at h;subst h;exact ⟨_,fun _ _=>by simp [conc];rfl,fun w t=>by simp at e;simp [Op.intDiv,e,wrapF_eq]⟩
  case rem=>
    rw [iEq_iff] at h
    cases e:(b == 0) with
    | true=>simp [e] at h
    | false=>simp only [e,cond_false,Option.some.injEq] at h;subst h;exact ⟨_,fun _ _=>by simp [conc];rfl,fun w t=>by simp at e;simp [Op.intDiv,e]⟩
  case and=>cases a <;> cases b <;> simp only [Option.some.injEq] at h <;> subst h <;> exact ⟨_,fun _ _=>by simp [conc];rfl,fun w t=>by simp [Op.intBits]⟩
  case or=>cases h;exact ⟨_,fun _ _=>by simp [conc];rfl,fun w t=>by simp [Op.intBits]⟩
  case xor=>cases h;exact ⟨_,fun _ _=>by simp [conc];rfl,fun w t=>by simp [Op.intBits]⟩
  case andNot=>cases h;exact ⟨_,fun _ _=>by simp [conc];rfl,fun w t=>by simp [Op.intBits]⟩
  case eql=>cases h;exact ⟨_,fun _ _=>by simp [conc];rfl,fun w t=>by simp [Op.intCmp,iEq_iff]⟩
  case neq=>cases h;exact ⟨_,fun _ _=>by simp [conc];rfl,fun w t=>by simp [Op.intCmp,iEq_iff,bne]⟩
  case lss=>cases h;exact ⟨_,fun _ _=>by simp [conc];rfl,fun w t=>by simp [Op.intCmp,iLt_iff]⟩
  case leq=>cases h;exact ⟨_,fun _ _=>by simp [conc];rfl,fun w t=>by simp [Op.intCmp,iLe_iff]⟩
  case gtr=>cases h;exact ⟨_,fun _ _=>by simp [conc];rfl,fun w t=>by simp [Op.intCmp,iLt_iff]⟩
  case geq=>cases h;exact ⟨_,fun _ _=>by simp [conc];rfl,fun w t=>by simp [Op.intCmp,iLe_iff]⟩
  all_goals simp at h

theorem aShift_ok {op:BinOp}{k k':IntKind}{a b:Int}{v:AV}(h:aShift op k a b=some v):∃ u,(∀ σ η,conc σ η v=some u)∧∀ w t,(binOp op t (.int k a) (.int k' b)).run P w = .ok u w:=by
  cases b with
  | negSucc n=>simp [aShift] at h
  | ofNat n =>
    cases op <;> simp only [aShift] at h
    case shl=>cases h;exact ⟨_,fun _ _=>by simp [conc];rfl,fun w t=>by
      have:¬ (Int.ofNat n<0):=by simp
      simp only [binOp,Op.shift,if_neg this,wrapF_eq];rfl⟩
    case shr=>cases h;exact ⟨_,fun _ _=>by simp [conc];rfl,fun w t=>by
      have:¬ (Int.ofNat n<0):=by simp
      simp only [binOp,Op.shift,if_neg this];rfl⟩
    all_goals simp at h

/-! ### texts -/
def bs (l:List Nat):ByteArray:=⟨(l.map Nat.toUInt8).toArray⟩
def allB (l:List Nat):Bool:=l.all (fun b=>decide (b<256))
theorem conc_str {l:List Nat}{u:Value}:conc σ η (.str l)=some u ↔ allB l=true∧u = .string (bs l):=by
  simp only [conc]
  change (if allB l=true then some (Value.string (bs l)) else none)=some u ↔ _
  cases allB l
  · simp
  · simp only [if_true,Option.some.injEq,true_and];exact eq_comm
theorem bs_toList (l:List Nat):(bs l).toList=l.map Nat.toUInt8:=by unfold bs;rw [ByteArray.toList_mk]
theorem bs_size (l:List Nat):(bs l).size=l.length:=by simp [bs,ByteArray.size]
theorem u8_toNat {a:Nat}(ha:a<256):a.toUInt8.toNat=a:=Nat.mod_eq_of_lt ha
theorem u8_inj {a b:Nat}(ha:a<256)(hb:b<256):a.toUInt8=b.toUInt8 ↔ a=b:=by
  constructor
  · intro h
    have h':=congrArg UInt8.toNat h
    rwa [u8_toNat ha,u8_toNat hb] at h'
  · rintro rfl;rfl
theorem u8_lt {a b:Nat}(ha:a<256)(hb:b<256):a.toUInt8<b.toUInt8 ↔ a<b:=by
  rw [UInt8.lt_iff_toNat_lt,u8_toNat ha,u8_toNat hb]
theorem allB_cons {x:Nat}{l:List Nat}:allB (x::l)=true ↔ x<256∧allB l=true:=by simp [allB]
theorem nsEq_iff:∀ {a b:List Nat},allB a=true→allB b=true→nsEq a b=(a.map Nat.toUInt8 == b.map Nat.toUInt8)
  | [],[],_,_=>by simp [nsEq]
  | [],_::_,_,_=>by simp [nsEq]
  | _::_,[],_,_=>by simp [nsEq]
  | x :: a, y :: b, ha, hb => by
    obtain ⟨h1,h2⟩:=allB_cons.1 ha
    obtain ⟨h3,h4⟩:=allB_cons.1 hb
    simp only [nsEq,nsEq_iff h2 h4,List.map_cons]
    rw [Bool.eq_iff_iff]
    by_cases e:x=y
    · subst e;simp
    · have : ¬ (x.toUInt8 = y.toUInt8) := fun h => e ((u8_inj h1 h3).1 h)
      have e':Nat.beq x y=false:=by cases h:Nat.beq x y with | true=>exact absurd (Nat.eq_of_beq_eq_true h) e | false=>rfl
      simp [e',this]
theorem nsLt_iff:∀ {a b:List Nat},allB a=true→allB b=true→nsLt a b=Op.bytesLess (a.map Nat.toUInt8) (b.map Nat.toUInt8)
  | [],[],_,_=>by simp [nsLt,Op.bytesLess]
  | [],_::_,_,_=>by simp [nsLt,Op.bytesLess]
  | _::_,[],_,_=>by simp [nsLt,Op.bytesLess]
  | x :: a, y :: b, ha, hb => by
    obtain ⟨h1,h2⟩:=allB_cons.1 ha
    obtain ⟨h3,h4⟩:=allB_cons.1 hb
    simp only [nsLt,nsLt_iff h2 h4,List.map_cons,Op.bytesLess]
    have l1:=u8_lt h1 h3
    have i1:=u8_inj h1 h3
    by_cases e:x=y
    · subst e;simp
    · have e' : Nat.beq x y = false := by cases h : Nat.beq x y with | true => exact absurd (Nat.eq_of_beq_eq_true h) e | false => rfl
      have:(x.toUInt8 == y.toUInt8)=false:=by simp;exact fun h=>e (i1.1 h)
      simp only [e',cond_false,this,Bool.false_and,Bool.or_false]
      rw [Bool.eq_iff_iff]
      simp [l1]
      omega
theorem nsCat_eq:∀ (a b:List Nat),nsCat a b=a++b
  | [],_=>rfl
  | x::a,b=>by simp [nsCat,nsCat_eq a b]
theorem bs_append (a b:List Nat):bs (a++b)=bs a++bs b:=by
  have:(bs (a++b)).data=(bs a++bs b).data:=by simp [bs,ByteArray.data_append]
  cases h:bs (a++b);cases h':bs a++bs b;simp_all
theorem bytesLess_asymm_eq:∀ (x y:List UInt8),(Op.bytesLess x y || x == y) = !Op.bytesLess y x
  | [],[]=>by simp [Op.bytesLess]
  | [],_::_=>by simp [Op.bytesLess]
  | _::_,[]=>by simp [Op.bytesLess]
  | a :: x, b :: y => by
    simp only [Op.bytesLess]
    have ih:=bytesLess_asymm_eq x y
    rcases Nat.lt_trichotomy a.toNat b.toNat with h | h | h
    · have h1 : a < b := UInt8.lt_iff_toNat_lt.2 h
      have h2:¬ b<a:=fun k=>by have:=UInt8.lt_iff_toNat_lt.1 k;omega
      have h3:(b == a)=false:=by simp;intro k;subst k;omega
      simp [h1,h2,h3]
    · have e : a = b := UInt8.toNat_inj.1 h
      subst e
      have:¬ a<a:=fun k=>by have:=UInt8.lt_iff_toNat_lt.1 k;omega
      simp only [this,decide_false,Bool.false_or,beq_self_eq_true,Bool.true_and]
      rw [← ih];simp
    · have h1 : b < a := UInt8.lt_iff_toNat_lt.2 h
      have h2:¬ a<b:=fun k=>by have:=UInt8.lt_iff_toNat_lt.1 k;omega
      have h3:(a == b)=false:=by simp;intro k;subst k;omega
      simp [h1,h2,h3]
theorem aStr_ok {op:BinOp}{a b:List Nat}{v:AV}(h:aStr op a b=some v)(ha:allB a=true)(hb:allB b=true):∃ u,(∀ σ η,conc σ η v=some u)∧∀ w t,(binOp op t (.string (bs a)) (.string (bs b))).run P w = .ok u w:=by
  cases op <;> simp only [aStr,Option.some.injEq,reduceCtorEq] at h <;> (try subst h)
  case add=>
    cases hl:Nat.ble (a.length+b.length) bigN with
    | false=>simp [hl] at h
    | true=>
    simp only [hl,cond_true,fNats_eq,Option.some.injEq] at h
    subst h
    have hs:=Nat.le_of_ble_eq_true hl
    unfold bigN at hs
    refine ⟨.string (bs (a++b)),fun σ η=>conc_str.2 ⟨by simp [allB] at ha hb ⊢;rw [nsCat_eq];simpa [or_imp,forall_and] using ⟨ha,hb⟩,by rw [nsCat_eq]⟩,fun w t=>?_⟩
    rw [binOp_string_add]
    have:¬ (((bs a).size+(bs b).size:Nat):Int) > IntKind.i64.max:=by rw [bs_size,bs_size];simp [IntKind.max,IntKind.signed,IntKind.bits];omega
    simp only [Op.stringOp,if_neg this,bs_append]
    rfl
  case eql=>exact ⟨_,fun _ _=>by simp [conc];rfl,fun w t=>by rw [binOp_string_eql,bs_toList,bs_toList,nsEq_iff ha hb];rfl⟩
  case neq=>exact ⟨_,fun _ _=>by simp [conc];rfl,fun w t=>by rw [binOp_string_neq,bs_toList,bs_toList,nsEq_iff ha hb];rfl⟩
  case lss=>exact ⟨_,fun _ _=>by simp [conc];rfl,fun w t=>by rw [binOp_string_lss,bs_toList,bs_toList,nsLt_iff ha hb];rfl⟩
  case leq=>exact ⟨_,fun _ _=>by simp [conc];rfl,fun w t=>by simp only [binOp,Op.stringOp,bs_toList,nsLt_iff hb ha];rw [bytesLess_asymm_eq];rfl⟩
  case gtr=>exact ⟨_,fun _ _=>by simp [conc];rfl,fun w t=>by simp only [binOp,Op.stringOp,bs_toList,nsLt_iff hb ha];rw [bytesLess_asymm_eq,Bool.not_not];rfl⟩
  case geq=>exact ⟨_,fun _ _=>by simp [conc];rfl,fun w t=>by simp only [binOp,Op.stringOp,bs_toList,nsLt_iff ha hb];rfl⟩
end
end Go.Eng
