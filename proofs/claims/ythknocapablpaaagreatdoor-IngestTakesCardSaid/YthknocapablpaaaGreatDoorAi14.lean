/- A part of the proof. -/
import Derived.Laws.BytesArg
import Derived.Test.YthknocapablpaaaGreatDoorAi13
namespace Go.Eng
/- An evaluator of closed runs: its heap stands for the world; operations that read it. -/
section
variable {σ σ':Sig}{η:Env}{P:Program}

def EsR (σ:Sig)(η:Env):List (AV × AV × Nat)→List MapEntry→Prop
  | [],[]=>True
  | (k,v,b)::es,e::ms=>conc σ η k=some e.key∧conc σ η v=some e.val∧e.born=b∧EsR σ η es ms
  | _,_=>False
theorem EsR.ext (hx:Ext σ σ'):∀ {es:List (AV × AV × Nat)}{ms:List MapEntry},EsR σ η es ms→EsR σ' η es ms
  | [],[],_=>trivial
  | (_,_,_)::_,_::_,⟨h1,h2,h3,h4⟩=>⟨conc_ext hx h1,conc_ext hx h2,h3,h4.ext hx⟩
  | [],_::_,h=>h.elim
  | _::_,[],h=>by obtain ⟨_,_,_⟩:=‹AV × AV × Nat›;exact h.elim
theorem EsR.length:∀ {es:List (AV × AV × Nat)}{ms:List MapEntry},EsR σ η es ms→ms.length=es.length
  | [],[],_=>rfl
  | (_,_,_)::_,_::_,⟨_,_,_,h4⟩=>by simp [h4.length]
  | [],_::_,h=>h.elim
  | _::_,[],h=>by obtain ⟨_,_,_⟩:=‹AV × AV × Nat›;exact h.elim

/-- What a name stands for lies in the world. -/
def isU8 (P:Program)(t:TypeId):Bool:=match P.underlying t with | some (.int .u8)=>true | _=>false
/-- So far a block's cells are no string's: one further, but for bytes. -/
def lim (P:Program)(t:TypeId)(n:Nat):Nat:=if isU8 P t then n else n+1
theorem lim_le {P:Program}{t:TypeId}{n:Nat}:n≤lim P t n:=by unfold lim;split <;> omega
theorem lim_u8 {P:Program}{t:TypeId}{n:Nat}(h:P.underlying t=some (.int .u8)):lim P t n=n:=by unfold lim isU8;rw [h];rfl

def lState:Nat→LoopState
  | 0=>.ready
  | 1=>.busy
  | 2=>.done
  | _=>.exhausted
def ObjR (P:Program)(σ:Sig)(η:Env)(w:World)(l:Loc):AObj→Prop
  | .cells t cs=>∃ (c:Array Value) (fr:Nat × Nat) (vs:List Value),w.heap[l.blk]? = some (.cells c t fr)∧(∀ i,i<lim P t c.size→¬ (fr.1≤i∧i<fr.2))∧concs σ η cs=some vs∧allOne vs=true ∧
      (∀ i v,vs[i]? = some v→c[l.off+i]? = some v)∧(l.off+vs.length+l.slack * P.cellsOf t≤c.size∧l.off % P.cellsOf t=0)
  | .map es cl=>∃ ms,w.heap[l.blk]? = some (.map ms cl)∧EsR σ η es ms.toList
  | .loop st pend tm nt ps a b dn=>∃ r:Loop,w.heap[l.blk]? = some (.loop r)∧r.state=lState st∧r.pending=pend∧(r.tmps.size=nt∧∀ t,conc σ η (evO tm (.tmp t))=some (r.tmps.getD t undef))∧nt≤bigN∧r.params.toList=ps∧r.assign=a∧r.body=b∧∃ d,σ dn=some d∧d.blk=r.defers
  | .dfr=>w.heap[l.blk]? = some (.deferred (some []))
  | .frz t cs=>∃ (c:Array Value) (fr:Nat × Nat) (vs:List Value),w.heap[l.blk]? = some (.cells c t fr)∧concs σ η cs=some vs∧(∀ i v,vs[i]? = some v→c[l.off+i]? = some v)∧allOne vs=true
  | .ro _ cs=>∃ (c:Array Value) (fr:Nat × Nat) (vs:List Value) (t:TypeId),w.heap[l.blk]? = some (.cells c t fr)∧concs σ η cs=some vs∧(∀ i v,vs[i]? = some v→c[l.off+i]? = some v)∧allOne vs=true∧η.blk l.blk=some (.cells c t fr)
theorem ObjR.ext (hx:Ext σ σ'){w:World}{l:Loc}:∀ {o:AObj},ObjR P σ η w l o→ObjR P σ' η w l o
  | .cells _ _,⟨c,fr,vs,h1,h2,h3,h4⟩=>⟨c,fr,vs,h1,h2,concs_ext hx h3,h4⟩
  | .map _ _,⟨ms,h1,h2⟩=>⟨ms,h1,h2.ext hx⟩
  | .loop ..,⟨r,h1,h2,h3,⟨h4,h5⟩,h6,h7,h8,h9,d,h10,h11⟩=>⟨r,h1,h2,h3,⟨h4,fun t=>conc_ext hx (h5 t)⟩,h6,h7,h8,h9,d,hx _ _ h10,h11⟩
  | .dfr,h=>h
  | .frz _ _,⟨c,fr,vs,h1,h2,h3⟩=>⟨c,fr,vs,h1,concs_ext hx h2,h3⟩
  | .ro _ _,⟨c,fr,vs,t,h1,h2,h3⟩=>⟨c,fr,vs,t,h1,concs_ext hx h2,h3⟩
theorem ObjR.block {w w':World}{l:Loc}(hb:w'.heap[l.blk]? = w.heap[l.blk]?):∀ {o:AObj},ObjR P σ η w l o→ObjR P σ η w' l o
  | .cells _ _,⟨c,fr,vs,h1,h2⟩=>⟨c,fr,vs,hb.trans h1,h2⟩
  | .map _ _,⟨ms,h1,h2⟩=>⟨ms,hb.trans h1,h2⟩
  | .loop ..,⟨r,h1,h2⟩=>⟨r,hb.trans h1,h2⟩
  | .dfr,h=>hb.trans h
  | .frz _ _,⟨c,fr,vs,h1,h2⟩=>⟨c,fr,vs,hb.trans h1,h2⟩
  | .ro _ _,⟨c,fr,vs,t,h1,h2⟩=>⟨c,fr,vs,t,hb.trans h1,h2⟩
theorem lt_of_heap {w:World}{b:Nat}{o:Obj}(h1:w.heap[b]? = some o):b<w.heap.size:=by
  rcases Nat.lt_or_ge b w.heap.size with h | h
  · exact h
  · rw [Array.getElem?_eq_none h] at h1;cases h1
theorem ObjR.lt {w:World}{l:Loc}:∀ {o:AObj},ObjR P σ η w l o→l.blk<w.heap.size
  | .cells _ _,⟨_,_,_,h1,_⟩=>lt_of_heap h1
  | .map _ _,⟨_,h1,_⟩=>lt_of_heap h1
  | .loop ..,⟨_,h1,_⟩=>lt_of_heap h1
  | .dfr,h1=>lt_of_heap h1
  | .frz _ _,⟨_,_,_,h1,_⟩=>lt_of_heap h1
  | .ro _ _,⟨_,_,_,_,h1,_⟩=>lt_of_heap h1

structure HR (P:Program) (σ:Sig) (η:Env) (h:Heap) (c:Nat) (w:World):Prop where
  obj:∀ n o,h.get n=some o→∃ l,σ n=some l∧ObjR P σ η w l o
  inj:∀ n m l k,(h.get n).isSome=true→(h.get m).isSome=true→σ n=some l→σ m=some k→l.blk=k.blk→n=m
  new:∀ n,c≤n→σ n=none
  glob:∀ g,g<P.globals.size→∃ s,σ g=some ⟨g,0,s⟩

theorem cells?_iff {h:Heap}{n t:Nat}{cs:List AV}:cells? h n=some (t,cs) ↔ h.get n=some (.cells t cs):=by
  unfold cells?
  split
  · rename_i e;rw [e];simp
  · rename_i e; constructor
    · intro k;cases k
    · intro k;exact absurd k (e t cs)

/-- The cells of a name, one by one. -/
theorem HR.cells {h:Heap}{c n t:Nat}{cs:List AV}{w:World}(H:HR P σ η h c w)(hn:cells? h n=some (t,cs)){l:Loc}(hl:σ n=some l) :
    ∃ vs,concs σ η cs=some vs∧allOne vs=true∧(∀ i v,vs[i]? = some v→w.cell? ⟨l.blk,l.off+i,none⟩=some v)∧(∀ i,w.frozen? ⟨l.blk,l.off+i,none⟩=true→vs.length≤i):=by
  obtain ⟨l',hl',ob⟩:=H.obj n _ (cells?_iff.1 hn)
  rw [hl] at hl'
  cases hl'
  obtain ⟨C,fr,vs,h1,h2,h3,h4,h5,h6,_⟩:=ob
  refine ⟨vs,h3,h4,fun i v hv=>?_,fun i hi=>?_⟩
  · simp only [World.cell?, h1]
    simpa using h5 i v hv
  · simp only [World.frozen?, h1] at hi
    rcases Nat.lt_or_ge i vs.length with hlt | hge
    · exact absurd (by simpa using hi) (h2 (l.off+i) (Nat.lt_of_lt_of_le (by omega) lim_le))
    · exact hge

/-- A row of cells is loaded. -/
theorem HR.row {h:Heap}{c n t o k:Nat}{cs r:List AV}{w:World}(H:HR P σ η h c w)(hn:cells? h n=some (t,cs)){l:Loc}(hl:σ n=some l)(hr:row? cs o k=some r) :
    ∃ vs,concs σ η r=some vs∧allOne vs=true∧vs.length=k∧(∀ i v,vs[i]? = some v→w.cell? ⟨l.blk,l.off+o+i,none⟩=some v)∧(loadCells ⟨l.blk,l.off+o,none⟩ k).run P w = .ok vs.toArray w:=by
  obtain ⟨vs,h1,h2,h3,_⟩:=H.cells hn hl
  obtain ⟨k1,k2,k3⟩:=concs_row h1 hr
  have hlen:((vs.drop o).take k).length=k:=by rw [concs_length k1];exact k2
  have hcell:∀ i v,((vs.drop o).take k)[i]? = some v→w.cell? ⟨l.blk,l.off+o+i,none⟩=some v:=by
    intro i v hv
    rw [List.getElem?_take] at hv
    split at hv
    · rw [List.getElem?_drop] at hv
      have:=h3 _ _ hv
      rwa [← Nat.add_assoc] at this
    · cases hv
  refine ⟨_,k1,allOne_iff.2 fun v hv=>allOne_iff.1 h2 v (List.mem_of_mem_drop (List.mem_of_mem_take hv)),hlen,hcell,?_⟩
  have:=run_loadCells_list (P:=P) w ⟨l.blk,l.off+o,none⟩ ((vs.drop o).take k) (fun j v hj=>by rw [add_plain];exact hcell j v hj)
  rwa [hlen] at this

/-- Cells that may be read. -/
theorem HR.rd {h:Heap}{c n t:Nat}{cs:List AV}{w:World}(H:HR P σ η h c w)(hn:rd? h n=some (t,cs)){l:Loc}(hl:σ n=some l) :
    ∃ vs,concs σ η cs=some vs∧allOne vs=true∧(∀ i v,vs[i]? = some v→w.cell? ⟨l.blk,l.off+i,none⟩=some v):=by
  have main:∀ (C:Array Value) (t:TypeId) (fr:Nat × Nat) (vs:List Value),w.heap[l.blk]? = some (.cells C t fr)→concs σ η cs=some vs→allOne vs=true→(∀ i v,vs[i]? = some v→C[l.off+i]? = some v)→∃ vs,concs σ η cs=some vs∧allOne vs=true∧(∀ i v,vs[i]? = some v→w.cell? ⟨l.blk,l.off+i,none⟩=some v):=by
    intro C t fr vs h1 h2 h3 h4
    refine ⟨vs,h2,h3,fun i v hv=>?_⟩
    simp only [World.cell?,h1]
    simpa using h4 i v hv
  unfold rd? at hn
  split at hn
  · rename_i z cs' e
    cases hn
    obtain ⟨l',hl',C,fr,vs,h1,_,h3,h4,h5,_⟩:=H.obj n _ e
    rw [hl] at hl';cases hl'
    exact main C _ fr vs h1 h3 h4 h5
  · rename_i z cs' e
    cases hn
    obtain ⟨l',hl',C,fr,vs,h1,h3,h5,h4⟩:=H.obj n _ e
    rw [hl] at hl';cases hl'
    exact main C _ fr vs h1 h3 h4 h5
  · rename_i z cs' e
    cases hn
    obtain ⟨l',hl',C,fr,vs,_,h1,h3,h5,h4,_⟩:=H.obj n _ e
    rw [hl] at hl';cases hl'
    exact main C _ fr vs h1 h3 h4 h5
  · cases hn

theorem HR.rrow {h:Heap}{c n t o k:Nat}{cs r:List AV}{w:World}(H:HR P σ η h c w)(hn:rd? h n=some (t,cs)){l:Loc}(hl:σ n=some l)(hr:row? cs o k=some r) :
    ∃ vs,concs σ η r=some vs∧allOne vs=true∧(loadCells ⟨l.blk,l.off+o,none⟩ k).run P w = .ok vs.toArray w:=by
  obtain ⟨vs,h1,h2,h3⟩:=H.rd hn hl
  obtain ⟨k1,k2,k3⟩:=concs_row h1 hr
  have hlen:((vs.drop o).take k).length=k:=by rw [concs_length k1];exact k2
  have hcell:∀ i v,((vs.drop o).take k)[i]? = some v→w.cell? ⟨l.blk,l.off+o+i,none⟩=some v:=by
    intro i v hv
    rw [List.getElem?_take] at hv
    split at hv
    · rw [List.getElem?_drop] at hv
      have:=h3 _ _ hv
      rwa [← Nat.add_assoc] at this
    · cases hv
  refine ⟨_,k1,allOne_iff.2 fun v hv=>allOne_iff.1 h2 v (List.mem_of_mem_drop (List.mem_of_mem_take hv)),?_⟩
  have:=run_loadCells_list (P:=P) w ⟨l.blk,l.off+o,none⟩ ((vs.drop o).take k) (fun j v hj=>by rw [add_plain];exact hcell j v hj)
  rwa [hlen] at this

theorem load_ok {h:Heap}{c n t e o:Nat}{cs:List AV}{r:AV}{w:World}(H:HR P σ η h c w)(hn:rd? h n=some (e,cs)){l:Loc}(hl:σ n=some l)(hp:aPart P t cs o=some r) :
    ∃ u,conc σ η r=some u∧(loadVar t ⟨l.blk,l.off+o,none⟩).run P w = .ok u w:=by
  unfold aPart at hp
  split at hp
  · rename_i k ea es
    simp only [Option.map_eq_some_iff] at hp
    obtain ⟨a,ha,rfl⟩:=hp
    obtain ⟨vs,h1,h2,h4⟩:=H.rrow hn hl ha
    exact ⟨_,conc_agg.2 ⟨vs,h1,h2,rfl⟩,by simp only [loadVar,Sem.run_bind,run_agg? ea,Result.andThen_ok,if_true,run_sizeOf? es,h4,Sem.run_pure]⟩
  · rename_i ea
    rw [nth_eq] at hp
    obtain ⟨vs,h1,h2,h3⟩:=H.rd hn hl
    obtain ⟨v,h4,h5⟩:=(concs_get h1 o).2 r hp
    exact ⟨v,h5,by simp only [loadVar,Sem.run_bind,run_agg? ea,Result.andThen_ok,Bool.false_eq_true,if_false,run_load,h3 o v h4]⟩
  · cases hp

theorem bytesOf?_ok:∀ {r:List AV}{s:List Nat}{vs:List Value},bytesOf? r=some s→concs σ η r=some vs→vs=s.map (fun n=>Value.int .u8 (Int.ofNat n))∧allB s=true
  | [],s,vs,h,hc=>by simp [bytesOf?] at h;subst h;simp [concs] at hc;subst hc;exact ⟨rfl,rfl⟩
  | x :: r, s, vs, h, hc => by
    unfold bytesOf? at h
    split at h
    · rename_i e;cases e
    · rename_i n l e
      cases e
      obtain ⟨v,us,h1,h2,rfl⟩:=concs_cons.1 hc
      cases eb:Nat.ble n 255 with
      | false=>simp [eb] at h
      | true =>
        have:=Nat.le_of_ble_eq_true eb
        simp only [eb,cond_true,Option.map_eq_some_iff] at h
        obtain ⟨a,h3,rfl⟩:=h
        obtain ⟨rfl,h5⟩:=bytesOf?_ok h3 h2
        rw [conc_int] at h1
        subst h1
        exact ⟨rfl,allB_cons.2 ⟨by omega,h5⟩⟩
    · cases h

theorem strOfNums_bs (s:List Nat):strOfNums (s.map fun n=>Int.ofNat n)=bs s:=by
  simp [strOfNums,bs,Nat.toUInt8]

theorem keyOk_ok {t:TypeId}{k:AV}{kv:Value}(h:keyOk P t k=true)(hk:conc σ η k=some kv):(∀ b n w,(Instr.checkKey b (n+1) t kv).run P w = .ok () w)∧∃ d,P.underlying t=some d ∧
    ∀ (es:List (AV × AV × Nat)) (ms:List MapEntry) (i:Nat) (r:Option (Nat × AV × Nat)),findE k es i=some r→EsR σ η es ms →
      (r=none∧Instr.findNow d kv ms i=some none)∨∃ j v b vv,r=some (i+j,v,b)∧conc σ η v=some vv∧Instr.findNow d kv ms i=some (some (i+j,vv))∧∃ k' kv' e,es[j]? = some (k',v,b)∧ms[j]? = some e∧e.key=kv'∧e.val=vv∧e.born=b∧e.key=kv∧conc σ η k'=some kv:=by
  unfold keyOk at h
  split at h
  · rename_i q j x hu
    rw [conc_int] at hk
    subst hk
    refine ⟨fun b n w=>by simp [Instr.checkKey,run_underlying hu],_,hu,?_⟩
    intro es
    induction es with
    | nil =>
      intro ms i r hf hr
      cases ms with
      | nil=>simp [findE] at hf;subst hf;exact .inl ⟨rfl,rfl⟩
      | cons _ _=>exact hr.elim
    | cons e es ih =>
      obtain ⟨k',v,b⟩:=e
      intro ms i r hf hr
      cases ms with
      | nil=>exact hr.elim
      | cons m ms =>
        obtain ⟨h1,h2,h3,h4⟩:=hr
        simp only [findE] at hf
        cases k' with
        | int j' y =>
          rw [conc_int] at h1
          simp only at hf
          cases ej:Nat.beq (ikN j) (ikN j') with
          | false=>simp [ej] at hf
          | true =>
            simp only [ej,cond_true] at hf
            rw [ikN_inj] at ej
            subst ej
            cases ee:iEq x y with
            | true =>
              simp only [ee,cond_true,Option.some.injEq] at hf
              subst hf
              have:x=y:=by rw [iEq_iff] at ee;simpa using ee
              subst this
              exact .inr ⟨0,v,b,m.val,rfl,h2,by simp [Instr.findNow,h1,Instr.sameNow],_,_,m,rfl,rfl,rfl,rfl,h3,h1,by rw [conc_int]⟩
            | false =>
              simp only [ee,cond_false] at hf
              have hne:(x == y)=false:=by rw [← iEq_iff];exact ee
              have hstep:Instr.findNow (.int q) (.int j x) (m::ms) i=Instr.findNow (.int q) (.int j x) ms (i+1):=by simp [Instr.findNow,h1,Instr.sameNow,hne]
              rcases ih ms (i+1) r hf h4 with ⟨e1,e2⟩ | ⟨jj,v',b',vv,e1,e2,e3,k2,kv2,m2,e4,e5,e6⟩
              · exact .inl ⟨e1,by rw [hstep,e2]⟩
              · exact .inr ⟨jj+1,v',b',vv,by rw [e1];congr 2;omega,e2,by rw [hstep,e3];congr 2;simp;omega,k2,kv2,m2,by simpa using e4,by simpa using e5,e6⟩
        | _=>simp at hf
  · rename_i x hu
    obtain ⟨hx,rfl⟩:=conc_str.1 hk
    refine ⟨fun b n w=>by simp [Instr.checkKey,run_underlying hu],_,hu,?_⟩
    intro es
    induction es with
    | nil =>
      intro ms i r hf hr
      cases ms with
      | nil=>simp [findE] at hf;subst hf;exact .inl ⟨rfl,rfl⟩
      | cons _ _=>exact hr.elim
    | cons e es ih =>
      obtain ⟨k',v,b⟩:=e
      intro ms i r hf hr
      cases ms with
      | nil=>exact hr.elim
      | cons m ms =>
        obtain ⟨h1,h2,h3,h4⟩:=hr
        simp only [findE] at hf
        cases k' with
        | str y =>
          obtain ⟨hy,h1⟩:=conc_str.1 h1
          simp only at hf
          have heq:nsEq x y=(bs x == bs y):=by rw [beq_toListBytes,bs_toList,bs_toList,nsEq_iff hx hy]
          cases ee:nsEq x y with
          | true =>
            simp only [ee,cond_true,Option.some.injEq] at hf
            subst hf
            have hb:(bs x == bs y)=true:=by rw [← heq];exact ee
            have hbs:bs x=bs y:=by
              have:=hb
              rw [beq_toListBytes,ByteArray.toList_eq,ByteArray.toList_eq] at this
              have h':(bs x).data=(bs y).data:=Array.toList_inj.1 (by simpa using this)
              cases hq:bs x;cases hq':bs y;simp_all
            exact .inr ⟨0,v,b,m.val,rfl,h2,by simp [Instr.findNow,h1,Instr.sameNow,hb],_,_,m,rfl,rfl,rfl,rfl,h3,by rw [h1,hbs],conc_str.2 ⟨hy,by rw [hbs]⟩⟩
          | false =>
            simp only [ee,cond_false] at hf
            have hne:(bs x == bs y)=false:=by rw [← heq];exact ee
            have hstep:Instr.findNow .string (.string (bs x)) (m::ms) i=Instr.findNow .string (.string (bs x)) ms (i+1):=by simp only [Instr.findNow,h1,Instr.sameNow,hne]
            rcases ih ms (i+1) r hf h4 with ⟨e1,e2⟩ | ⟨jj,v',b',vv,e1,e2,e3,k2,kv2,m2,e4,e5,e6⟩
            · exact .inl ⟨e1,by rw [hstep,e2]⟩
            · exact .inr ⟨jj+1,v',b',vv,by rw [e1];congr 2;omega,e2,by rw [hstep,e3];congr 2;simp;omega,k2,kv2,m2,by simpa using e4,by simpa using e5,e6⟩
        | _=>simp at hf
  · cases h

theorem run_findKey {t:TypeId}{d:TypeDesc}{kv:Value}{ms:List MapEntry}{r:Option (Nat × Value)}(hu:P.underlying t=some d)(h:Instr.findNow d kv ms 0=some r)(w:World):(Instr.findKey t kv ms).run P w = .ok r w:=by
  simp only [Instr.findKey,Sem.run_bind,run_underlying hu,Result.andThen_ok,h,Sem.run_pure]

theorem run_getMap {b:Nat}{ms:Array MapEntry}{cl:Nat}{w:World}(h:w.heap[b]? = some (.map ms cl)):(getObj b).run P w = .ok (.map ms cl) w:=by simp only [getObj,Sem.run,h]

theorem run_lookup {t kt et:TypeId}{mv kv z:Value}{ms:Array MapEntry}{d:TypeDesc}{vo:Option (Nat × Value)}{ok:Bool}{w:World}(hu:P.underlying t=some (.map kt et))
    (hm:(mv = .map none∧ms=#[])∨∃ b cl,mv = .map (some b)∧w.heap[b]? = some (.map ms cl))(ck:∀ b,(Instr.checkKey b 10000 kt kv).run P w = .ok () w)(hud:P.underlying kt=some d)(hf:Instr.findNow d kv ms.toList 0=some vo)
    (hz:vo=none→(zeroValue et).run P w = .ok z w):(Instr.lookup t mv kv ok).run P w = .ok (if ok then .tuple #[(vo.map (·.2)).getD z,.bool vo.isSome] else (vo.map (·.2)).getD z) w:=by
  rcases hm with ⟨rfl,rfl⟩ | ⟨b,cl,rfl,hb⟩
  · unfold Instr.lookup
    simp only [Sem.run_bind,run_underlying hu,Result.andThen_ok,Sem.run_pure,ck,run_findKey hud hf]
    cases vo with
    | none=>simp only [hz rfl,Sem.run_bind,Result.andThen_ok,Sem.run_pure];cases ok <;> rfl
    | some x=>obtain ⟨j,v⟩:=x;simp only [Sem.run_pure,Result.andThen_ok,Sem.run_bind];cases ok <;> rfl
  · unfold Instr.lookup
    simp only [Sem.run_bind,run_underlying hu,Result.andThen_ok,run_getMap hb,Sem.run_pure,ck,run_findKey hud hf]
    cases vo with
    | none=>simp only [hz rfl,Sem.run_bind,Result.andThen_ok,Sem.run_pure];cases ok <;> rfl
    | some x=>obtain ⟨j,v⟩:=x;simp only [Sem.run_pure,Result.andThen_ok,Sem.run_bind];cases ok <;> rfl

theorem aRead_ok {ρ:Operand→AV}{e:Operand→Value}{o:Oper}{r:AV}{h:Heap}{c:Nat}{w:World}(hd:aRead P ρ h o.op=some r)(hr:∀ x∈o.op.operands,conc σ η (ρ x)=some (e x))(H:HR P σ η h c w) :
    ∃ u,conc σ η r=some u∧(execOp e o).run P w = .ok (.value u) w:=by
  have val:∀ {s:Sem Value} {u:Value},s.run P w = .ok u w→(do pure (.value (← s)):Sem Next).run P w = .ok (.value u) w:=by
    intro s u hs
    rw [Sem.run_bind,hs];rfl
  unfold aRead at hd
  unfold execOp
  split at hd
  · rename_i t x hop
    rw [hop] at hr ⊢
    have hx:=hr x (by simp [Op.operands])
    split at hd
    · rename_i n o' ex
      rw [ex] at hx
      obtain ⟨l,hl,hv⟩:=conc_ptr.1 hx
      simp only [Option.bind_eq_some_iff] at hd
      obtain ⟨⟨t',cs⟩,hc,hp⟩:=hd
      obtain ⟨u,u1,u2⟩:=load_ok H hc hl hp
      exact ⟨u,u1,val (by simp only [hv,Instr.loadAt,Instr.sureAddr,Sem.run_bind,Sem.run_pure,Result.andThen_ok,u2])⟩
    · cases hd
  · rename_i s d x hop
    rw [hop] at hr ⊢
    have hx:=hr x (by simp [Op.operands])
    split at hd
    · rename_i el hs hdd ex
      rw [ex,conc_nils] at hx
      split at hd
      · rename_i he
        cases hd
        refine ⟨_,conc_str.2 ⟨rfl,rfl⟩,val ?_⟩
        rw [hx,run_convert_bytes_nil w s el hs he 0 0 d hdd]
        rfl
      · cases hd
    · rename_i el n o' len cap fl hs hdd ex
      rw [ex] at hx
      obtain ⟨l,hl,hv⟩:=conc_slice.1 hx
      split at hd
      · rename_i he
        simp only [Option.bind_eq_some_iff,fNats_eq,Option.some.injEq] at hd
        obtain ⟨⟨t',cs⟩,hc,row,hrow,bsx,hb,rfl⟩:=hd
        obtain ⟨vs,h1,h2,h3,h4,h5⟩:=H.row hc hl hrow
        obtain ⟨rfl,k2⟩:=bytesOf?_ok hb h1
        have hlen:bsx.length=len:=by simpa using h3
        refine ⟨_,conc_str.2 ⟨k2,rfl⟩,val ?_⟩
        rw [hv,run_convert_bytes_arg w s el hs he l.blk (l.off+o') len _ (bsx.map fun n=>Int.ofNat n) (by simpa using hlen) (fun i hi=>?_) d hdd,strOfNums_bs]
        refine h4 i _ ?_
        rw [List.getElem?_map,List.getElem?_eq_getElem (by omega)]
        simp [List.getD,List.getElem?_eq_getElem (show i<bsx.length by omega)]
      · cases hd
    · cases hd
  · rename_i t x i ok hop
    rw [hop] at hr ⊢
    have hx:=hr x (by simp [Op.operands])
    have hi:=hr i (by simp [Op.operands])
    split at hd
    · rename_i kt et hu
      cases hk:keyOk P kt (ρ i) with
      | false=>simp [hk] at hd
      | true =>
        simp only [hk,cond_true,Option.bind_eq_some_iff] at hd
        obtain ⟨es,he,rr,hf,hres⟩:=hd
        obtain ⟨ck,d,hud,fk⟩:=keyOk_ok hk hi
        obtain ⟨ms,hm,hes⟩:∃ ms:Array MapEntry,((e x = .map none∧ms=#[])∨∃ b cl,e x = .map (some b)∧w.heap[b]? = some (.map ms cl))∧EsR σ η es ms.toList:=by
          split at he
          · rename_i ex
            cases he
            rw [ex,conc_nilm] at hx
            exact ⟨#[],.inl ⟨hx,rfl⟩,trivial⟩
          · rename_i n ex
            rw [ex] at hx
            obtain ⟨l,hl,hv⟩:=conc_map.1 hx
            split at he
            · rename_i es' cl hg
              cases he
              obtain ⟨l',hl',ob⟩:=H.obj n _ hg
              rw [hl] at hl';cases hl'
              obtain ⟨ms,m1,m2⟩:=ob
              exact ⟨ms,.inr ⟨_,_,hv,m1⟩,m2⟩
            · cases he
          · cases he
        have ck':∀ b,(Instr.checkKey b 10000 kt (e i)).run P w = .ok () w:=fun b=>ck b 9999 w
        have res:∀ {v:AV} {u:Value} {b:Bool},conc σ η v=some u→conc σ η (bif ok then .tup [v,.bool b] else v)=some (if ok then .tuple #[u,.bool b] else u):=by
          intro v u b hc
          cases ok
          · exact hc
          · exact conc_tup.2 ⟨_,concs_cons.2 ⟨_,_,hc,concs_cons.2 ⟨_,_,conc_bool.2 rfl,rfl,rfl⟩,rfl⟩,rfl⟩
        rcases fk es ms.toList 0 rr hf hes with ⟨rfl,e2⟩ | ⟨j,v,b,vv,rfl,e2,e3,_⟩
        · simp only [Option.map_eq_some_iff] at hres
          obtain ⟨z,hz,rfl⟩:=hres
          obtain ⟨zv,z1,z2,z3⟩:=run_zero? hz
          exact ⟨_,res (z1 σ η),val (run_lookup hu hm ck' hud e2 (fun _=>z3 w))⟩
        · simp only [Option.some.injEq] at hres
          subst hres
          exact ⟨_,res e2,val (run_lookup (z:=undef) hu hm ck' hud e3 (fun q=>by cases q))⟩
    · cases hd
  · rename_i cl hop
    rw [hop] at hr ⊢
    obtain ⟨callee,args,argTypes⟩:=cl
    have args':∀ x∈args,conc σ η (ρ x)=some (e x):=fun x hx=>hr x (by simp [Op.operands,Call.operands,hx])
    split at hd
    · rename_i hc
      simp only at hc
      subst hc
      split at hd
      · rename_i t x e1 e2
        split at hd
        · rename_i kt et n hu ex
          have hx:=args' x (Array.mem_of_getElem? e2)
          rw [ex] at hx
          obtain ⟨l,hl,hv⟩:=conc_map.1 hx
          split at hd
          · rename_i es cl hg
            cases hd
            obtain ⟨l',hl',ob⟩:=H.obj n _ hg
            rw [hl] at hl';cases hl'
            obtain ⟨ms,m1,m2⟩:=ob
            have hx0:(args.map e)[0]? = some (.map (some l.blk)):=by simp [e2,hv]
            refine ⟨_,conc_int.2 rfl,?_⟩
            have hl:(Builtin.len_ argTypes o.type (args.map e)).run P w = .ok (.int .i64 (Int.ofNat es.length)) w:=by
              simp only [Builtin.len_,e1,hx0,Sem.run_bind,run_underlying hu,Result.andThen_ok,run_getMap m1,Sem.run_pure,goInt]
              have:=m2.length
              simp at this
              rw [this];rfl
            simp [resolve,invoke,builtin,hl]
          · cases hd
        · cases hd
      · cases hd
    · cases hd
  · cases hd
end
/- An evaluator of closed runs: how the heap turns. -/
section
variable {σ σ':Sig}{η:Env}{P:Program}

/-- Of what was there only blocks in S may have turned; the streams are as they were. -/
structure Kept (S:Nat→Prop) (w w':World):Prop where
  os:w'.os=w.os
  tape:w'.tape=w.tape
  output:w'.output=w.output
  size:w.heap.size≤w'.heap.size
  block:∀ k,k<w.heap.size→¬ S k→w'.heap[k]? = w.heap[k]?

theorem Kept.refl (S:Nat→Prop)(w:World):Kept S w w:=⟨rfl,rfl,rfl,Nat.le_refl _,fun _ _ _=>rfl⟩

/-- The blocks of the names that live. -/
def Liv (σ:Sig)(h:Heap)(b:Nat):Prop:=∃ n l,(h.get n).isSome=true∧σ n=some l∧l.blk=b

structure Went (P:Program) (η:Env) (σ:Sig) (h:Heap) (c:Nat) (w:World) (σ':Sig) (h':Heap) (c':Nat) (w':World):Prop where
  ext:Ext σ σ'
  rel:HR P σ' η h' c' w'
  kept:Kept (Liv σ h) w w'
  liv:∀ b,b<w.heap.size→Liv σ' h' b→Liv σ h b
  off:∀ n l,(h'.get n).isSome=true→σ' n=some l→l.off=0∨∃ m k,(h.get m).isSome=true∧σ m=some k∧k.off=l.off

theorem Went.refl {h:Heap}{c:Nat}{w:World}(H:HR P σ η h c w):Went P η σ h c w σ h c w:=⟨Ext.refl _,H,Kept.refl _ _,fun _ _ h=>h,fun n l hn hl=>.inr ⟨n,l,hn,hl,rfl⟩⟩
theorem Went.trans {a b d:Sig}{h h1 h2:Heap}{c c1 c2:Nat}{w w1 w2:World}(x:Went P η a h c w b h1 c1 w1)(y:Went P η b h1 c1 w1 d h2 c2 w2):Went P η a h c w d h2 c2 w2:=
  ⟨x.ext.trans y.ext,y.rel,⟨y.kept.os.trans x.kept.os,y.kept.tape.trans x.kept.tape,y.kept.output.trans x.kept.output,Nat.le_trans x.kept.size y.kept.size,fun k hk hS=>
    (y.kept.block k (Nat.lt_of_lt_of_le hk x.kept.size) (fun q=>hS (x.liv k hk q))).trans (x.kept.block k hk hS)⟩,
    fun k hk q=>x.liv k hk (y.liv k (Nat.lt_of_lt_of_le hk x.kept.size) q),
    fun n l hn hl=>(y.off n l hn hl).elim .inl fun ⟨m,k,hm,hk,e⟩=>(x.off m k hm hk).imp (fun e0=>by rw [← e,e0]) fun ⟨j,i,a,b,e3⟩=>⟨j,i,a,b,e3.trans e⟩⟩

/-- The heap alone counts. -/
theorem HR.heap {h:Heap}{c:Nat}{w w':World}(H:HR P σ η h c w)(e:w'.heap=w.heap):HR P σ η h c w':=
  ⟨fun n o hn=>let ⟨l,hl,ob⟩:=H.obj n o hn;⟨l,hl,ob.block (by rw [e])⟩,H.inj,H.new,H.glob⟩
theorem Went.heap {h h':Heap}{c c':Nat}{w w1 w':World}(x:Went P η σ h c w σ' h' c' w1)(e:w'.heap=w1.heap)(e1:w'.os=w1.os)(e2:w'.tape=w1.tape)(e3:w'.output=w1.output):Went P η σ h c w σ' h' c' w':=
  ⟨x.ext,x.rel.heap e,⟨e1.trans x.kept.os,e2.trans x.kept.tape,e3.trans x.kept.output,by rw [e];exact x.kept.size,fun k hk hS=>by rw [e];exact x.kept.block k hk hS⟩,x.liv,x.off⟩

theorem deep_ok {n:Nat}(h:n≤bigN):n<2 ^ deep - 1:=by unfold bigN at h;unfold deep;omega
theorem get_put {α:Type}{t:Tr α}{n:Nat}{x:Option α}(h:n≤bigN)(m:Nat):(Tr.set deep t n x).get m=if m=n then x else t.get m:=by
  by_cases e:m=n
  · subst e;rw [if_pos rfl];exact Tr.get_set_same deep t m x (deep_ok h)
  · rw [if_neg e];exact Tr.get_set_other deep t n m x (fun q=>e q.symm)
theorem putObj_ok {h:Heap}{n:Nat}{o:Option AObj}{k:Heap→Option Out}{r:Out}(e:putObj h n o k=some r):n≤bigN∧k (h.set deep n o)=some r:=by
  unfold putObj at e
  cases eb:Nat.ble n bigN with
  | false=>simp [eb] at e
  | true=>simp only [eb,cond_true,setK_eq] at e;exact ⟨Nat.le_of_ble_eq_true eb,e⟩

def upd (σ:Sig)(c:Nat)(l:Loc):Sig:=fun n=>if n=c then some l else σ n
theorem upd_same (σ:Sig)(c:Nat)(l:Loc):upd σ c l c=some l:=by simp [upd]
theorem upd_other {σ:Sig}{c n:Nat}{l:Loc}(h:n≠c):upd σ c l n=σ n:=by simp [upd,h]
theorem ext_upd {σ:Sig}{c:Nat}{l:Loc}(h:σ c=none):Ext σ (upd σ c l):=by
  intro n k hn
  by_cases e:n=c
  · subst e;rw [h] at hn;cases hn
  · rw [upd_other e];exact hn

/-- A name goes: it counts no more. -/
theorem kill_ok {h:Heap}{c n:Nat}{w:World}(H:HR P σ η h c w)(hn:n≤bigN):Went P η σ h c w σ (h.set deep n none) c w:=by
  have back:∀ m,((h.set deep n none).get m).isSome=true→(h.get m).isSome=true:=by
    intro m hm;rw [get_put hn] at hm;split at hm
    · cases hm
    · exact hm
  refine ⟨Ext.refl _,⟨fun m o hm=>?_,fun a b l k ha hb=>H.inj a b l k (back a ha) (back b hb),H.new,H.glob⟩,Kept.refl _ _,fun b _ ⟨m,l,hm,hl,e⟩=>⟨m,l,back m hm,hl,e⟩,fun m l hm hl=>.inr ⟨m,l,back m hm,hl,rfl⟩⟩
  rw [get_put hn] at hm
  split at hm
  · cases hm
  · exact H.obj m o hm

/-- A name's object turns into another one. -/
theorem put_ok {h:Heap}{c n:Nat}{w w':World}{o:AObj}{O:Obj}{l:Loc}(H:HR P σ η h c w)(hn:n≤bigN)(hl:σ n=some l)(hlive:(h.get n).isSome=true)(hw:w'={ w with heap:=w.heap.setIfInBounds l.blk O })(ho:ObjR P σ η w' l o) :
    Went P η σ h c w σ (h.set deep n (some o)) c w':=by
  have live:∀ m,((h.set deep n (some o)).get m).isSome=true→(h.get m).isSome=true:=by
    intro m hm;rw [get_put hn] at hm;split at hm
    · rename_i e;subst e;exact hlive
    · exact hm
  subst hw
  refine ⟨Ext.refl _,⟨fun m q hm=>?_,fun a b x y ha hb=>H.inj a b x y (live a ha) (live b hb),H.new,H.glob⟩,⟨rfl,rfl,rfl,by simp,fun k hk hS=>?_⟩,fun b _ ⟨m,x,hm,hx,e⟩=>⟨m,x,live m hm,hx,e⟩,fun m x hm hx=>.inr ⟨m,x,live m hm,hx,rfl⟩⟩
  · rw [get_put hn] at hm
    split at hm
    · rename_i e;subst e;cases hm;exact ⟨l,hl,ho⟩
    · rename_i e
      obtain ⟨x,hx,ob⟩:=H.obj m q hm
      refine ⟨x,hx,ob.block ?_⟩
      have:l.blk≠x.blk:=fun q'=>e (H.inj m n x l (by rw [hm];rfl) hlive hx hl q'.symm)
      simp [Array.getElem?_setIfInBounds_ne this]
  · have : l.blk ≠ k := fun e => hS ⟨n, l, hlive, hl, e⟩
    simp [Array.getElem?_setIfInBounds_ne this]

/-- A new object gets the next name. -/
theorem new_ok {h:Heap}{c sl:Nat}{w w':World}{o:AObj}{O:Obj}(H:HR P σ η h c w)(hc:c≤bigN)(hw:w'.heap=w.heap.push O)(e1:w'.os=w.os)(e2:w'.tape=w.tape)(e3:w'.output=w.output)
    (ho:ObjR P (upd σ c ⟨w.heap.size,0,sl⟩) η w' ⟨w.heap.size,0,sl⟩ o):Went P η σ h c w (upd σ c ⟨w.heap.size,0,sl⟩) (h.set deep c (some o)) (c+1) w':=by
  have hx:=ext_upd (l:=⟨w.heap.size,0,sl⟩) (H.new c (Nat.le_refl _))
  have old:∀ n,(h.get n).isSome=true→n≠c∧∃ l,σ n=some l∧l.blk<w.heap.size:=by
    intro n hn
    cases e:h.get n with
    | none=>rw [e] at hn;cases hn
    | some q =>
      obtain ⟨l,hl,ob⟩:=H.obj n q e
      refine ⟨fun k=>?_,l,hl,ob.lt⟩
      subst k;rw [H.new n (Nat.le_refl _)] at hl;cases hl
  refine ⟨hx,⟨fun m q hm=>?_,fun a b x y ha hb hxa hxb e=>?_,fun n hn=>?_,fun g hg=>?_⟩,⟨e1,e2,e3,by rw [hw];simp,fun k hk _=>?_⟩,fun b hb ⟨m,x,hm,hmx,e⟩=>?_,fun m x hm hmx=>?_⟩
  · rw [get_put hc] at hm
    split at hm
    · rename_i e;subst e;cases hm;exact ⟨_,upd_same _ _ _,ho⟩
    · rename_i e
      obtain ⟨x,hx1,ob⟩:=H.obj m q hm
      refine ⟨x,hx m x hx1,(ob.ext hx).block ?_⟩
      rw [hw]
      exact Array.getElem?_push_lt ob.lt |>.trans (by simp [Array.getElem?_eq_getElem ob.lt])
  · rw [get_put hc] at ha hb
    by_cases ea:a=c <;> by_cases eb:b=c
    · rw [ea,eb]
    · rw [if_neg eb] at hb
      obtain ⟨_,l,hl,hlt⟩:=old b hb
      rw [ea,upd_same] at hxa;rw [upd_other eb,hl] at hxb
      cases hxa;cases hxb;simp at e;omega
    · rw [if_neg ea] at ha
      obtain ⟨_,l,hl,hlt⟩:=old a ha
      rw [eb,upd_same] at hxb;rw [upd_other ea,hl] at hxa
      cases hxa;cases hxb;simp at e;omega
    · rw [if_neg ea] at ha; rw [if_neg eb] at hb
      rw [upd_other ea] at hxa;rw [upd_other eb] at hxb
      exact H.inj a b x y ha hb hxa hxb e
  · rw [upd_other (by omega)];exact H.new n (by omega)
  · obtain ⟨s,hs⟩:=H.glob g hg;exact ⟨s,hx _ _ hs⟩
  · rw [hw];exact Array.getElem?_push_lt hk |>.trans (by simp [Array.getElem?_eq_getElem hk])
  · rw [get_put hc] at hm
    by_cases em:m=c
    · rw [em,upd_same] at hmx;cases hmx;simp at e;omega
    · rw [if_neg em] at hm;rw [upd_other em] at hmx;exact ⟨m,x,hm,hmx,e⟩
  · rw [get_put hc] at hm
    by_cases em:m=c
    · rw [em,upd_same] at hmx;cases hmx;exact .inl rfl
    · rw [if_neg em] at hm;rw [upd_other em] at hmx;exact .inr ⟨m,x,hm,hmx,rfl⟩

/-- New cells. -/
theorem newCells_ok {h h':Heap}{c c' sl t:Nat}{w w':World}{cs:List AV}{v v':AV}{vs:List Value}{C:Array Value}{fr:Nat × Nat}(e:newCells h c t cs v=some (.val v' h' c'))(H:HR P σ η h c w)(h1:concs σ η cs=some vs)(h2:allOne vs=true)
    (h3:∀ (i:Nat)(x:Value),vs[i]? = some x→C[i]? = some x)(h4:vs.length+sl * P.cellsOf t≤C.size)(h5:∀ i,i<lim P t C.size→¬ (fr.1≤i∧i<fr.2))(hw:w'.heap=w.heap.push (.cells C t fr))(e1:w'.os=w.os)(e2:w'.tape=w.tape)(e3:w'.output=w.output) :
    v'=v∧Went P η σ h c w (upd σ c ⟨w.heap.size,0,sl⟩) h' c' w':=by
  unfold newCells fCells at e
  rw [fAVs_eq] at e
  obtain ⟨hc,e⟩:=putObj_ok e
  rw [fNat_eq] at e
  cases e
  refine ⟨rfl,new_ok H hc hw e1 e2 e3 ⟨C,fr,vs,?_,h5,concs_ext (ext_upd (H.new c (Nat.le_refl _))) h1,h2,by simpa using h3,by simpa using h4⟩⟩
  rw [hw];simp

theorem run_storeCells {w:World}{b:Nat}{c:Array Value}{t:TypeId}{fr:Nat × Nat}(hb:w.heap[b]? = some (.cells c t fr))(hf:∀ i,i<c.size→¬ (fr.1≤i∧i<fr.2)):∀ (vs:List Value)(p i:Nat),allOne vs=true→p+i+vs.length≤c.size →
    (storeCells ⟨b,p,none⟩ vs i).run P w = .ok () { w with heap:=w.heap.setIfInBounds b (.cells ⟨layL c.toList (p+i) vs⟩ t fr) }
  | [], p, i, _, _ => by
    simp only [storeCells,Sem.run_pure]
    congr 1
    have:(⟨layL c.toList (p+i) []⟩:Array Value)=c:=by simp [layL]
    rw [this]
    have hlt:b<w.heap.size:=by
      rcases Nat.lt_or_ge b w.heap.size with h | h
      · exact h
      · rw [Array.getElem?_eq_none h] at hb;cases hb
    have:w.heap.setIfInBounds b (.cells c t fr)=w.heap:=by
      apply Array.ext_getElem?
      intro k
      by_cases e:b=k
      · subst e;rw [Array.getElem?_setIfInBounds_self,if_pos hlt,hb]
      · rw [Array.getElem?_setIfInBounds_ne e]
    rw [this]
  | v :: vs, p, i, h1, h2 => by
    simp only [allOne,Bool.and_eq_true] at h1
    simp only [List.length_cons] at h2
    have hlt:b<w.heap.size:=by
      rcases Nat.lt_or_ge b w.heap.size with h | h
      · exact h
      · rw [Array.getElem?_eq_none h] at hb;cases hb
    have hcell:∃ u,w.cell? ⟨b,p+i,none⟩=some u:=by
      simp only [World.cell?,hb]
      exact ⟨_,Array.getElem?_eq_getElem (by omega)⟩
    obtain ⟨u,hu⟩:=hcell
    have hfr:w.frozen? ⟨b,p+i,none⟩=false:=by
      simp only [World.frozen?,hb]
      have:=hf (p+i) (by omega)
      simpa using this
    simp only [storeCells,Sem.run_bind,add_plain]
    rw [run_store P w _ v _ h1.1,hu]
    simp only [hfr,Bool.false_eq_true,if_false,Result.andThen_ok]
    have hw1:w.setCell ⟨b,p+i,none⟩ v={ w with heap:=w.heap.setIfInBounds b (.cells (c.setIfInBounds (p+i) v) t fr) }:=by
      simp only [World.setCell]
      congr 1
      apply Array.ext_getElem?
      intro k
      by_cases e:b=k
      · subst e
        rw [Array.getElem?_setIfInBounds_self,if_pos hlt,Array.getElem?_modify]
        simp [hb]
      · rw [Array.getElem?_setIfInBounds_ne e, Array.getElem?_modify]
        simp [e]
    rw [hw1]
    rw [run_storeCells (w:={ w with heap:=w.heap.setIfInBounds b (.cells (c.setIfInBounds (p+i) v) t fr) }) (c:=c.setIfInBounds (p+i) v) (t:=t) (fr:=fr) (b:=b) (by simp [hlt]) (by simpa using hf) vs p (i+1) h1.2 (by simp;omega)]
    congr 1
    have e2:(layL (c.setIfInBounds (p+i) v).toList (p+(i+1)) vs)=layL c.toList (p+i) (v::vs):=by
      have hl:p+i<c.toList.length:=by simp;omega
      simp only [layL,Array.toList_setIfInBounds]
      have e1:(c.toList.set (p+i) v).take (p+(i+1))=c.toList.take (p+i)++[v]:=by
        rw [← Nat.add_assoc,List.take_succ_eq_append_getElem (by simpa using hl)]
        simp [List.take_set]
        exact List.set_eq_of_length_le (by simp;omega)
      have e2:(c.toList.set (p+i) v).drop (p+(i+1)+vs.length)=c.toList.drop (p+i+(v::vs).length):=by
        rw [List.drop_set_of_lt (by omega)]
        simp only [List.length_cons]
        congr 1
        omega
      rw [e1,e2]
      simp
    rw [e2]
    simp

theorem layL_get {L V:List Value}{o i:Nat}(h:o+V.length≤L.length):(layL L o V)[i]? = if i<o then L[i]? else if i<o+V.length then V[i - o]? else L[i]?:=by
  have ht:(L.take o).length=o:=by simp;omega
  have ht2:(L.take o++V).length=o+V.length:=by rw [List.length_append,ht]
  unfold layL
  rw [List.getElem?_append,List.getElem?_append,ht,ht2]
  rcases Nat.lt_or_ge i o with q | q
  · rw [if_pos (by omega),if_pos q,if_pos q,List.getElem?_take_of_lt q]
  · rw [if_neg (show ¬ i < o by omega), if_neg (show ¬ i < o by omega)]
    split
    · rfl
    · rw [List.getElem?_drop];congr 1;omega

/-- Values are laid into a name's cells, as far as they are known. -/
theorem lay_ok {h:Heap}{c n t:Nat}{cs cs':List AV}{o:Nat}{vs:List AV}{V:List Value}{w:World}{l:Loc}(H:HR P σ η h c w)(hn:cells? h n=some (t,cs))(hb:n≤bigN)(hl:σ n=some l)(he:lay? cs o vs=some cs')(hv:concs σ η vs=some V)(h1:allOne V=true) :
    ∃ w',(storeCells ⟨l.blk,l.off+o,none⟩ V).run P w = .ok () w'∧Went P η σ h c w σ (h.set deep n (some (.cells t cs'))) c w':=by
  have hg:=cells?_iff.1 hn
  obtain ⟨l',hl',ob⟩:=H.obj n _ hg
  rw [hl] at hl';cases hl'
  obtain ⟨C,fr,us,k1,k2,k3,k4,k5,k6⟩:=ob
  obtain ⟨m1,m2,m3⟩:=lay?_ok he k3 hv
  refine ⟨_,run_storeCells (P:=P) k1 (fun j hj=>k2 j (Nat.lt_of_lt_of_le hj lim_le)) V (l.off+o) 0 h1 (by omega),?_⟩
  have hlt:l.blk<w.heap.size:=by
    rcases Nat.lt_or_ge l.blk w.heap.size with h | h
    · exact h
    · rw [Array.getElem?_eq_none h] at k1;cases k1
  refine put_ok H hb hl (by rw [hg];rfl) rfl ⟨_,fr,layL us o V,by simp only [Array.getElem?_setIfInBounds_self,if_pos hlt];rfl,?_,m1,layL_one k4 h1,fun i v hi=>?_,?_⟩
  · intro i hi
    refine k2 i ?_
    have:=layL_length (L:=C.toList) (V:=V) (o:=l.off+o+0) (by simp;omega)
    have hi':i<lim P t (layL C.toList (l.off+o+0) V).length:=by simpa using hi
    rw [this] at hi'
    simpa using hi'
  · -- the cells
    simp only [List.getElem?_toArray,Nat.add_zero]
    have cell:∀ j,j<us.length→C.toList[l.off+j]? = us[j]?:=by
      intro j hj
      rw [List.getElem?_eq_getElem hj]
      have:=k5 j _ (List.getElem?_eq_getElem hj)
      simpa using this
    have hil:i<us.length:=by
      rcases Nat.lt_or_ge i us.length with q | q
      · exact q
      · have hlen := layL_length (L := us) (V := V) (o := o) m2
        rw [List.getElem?_eq_none (by omega)] at hi;cases hi
    rw [← hi]
    have e1:=layL_get (L:=C.toList) (V:=V) (o:=l.off+o) (i:=l.off+i) (by simp;omega)
    have e2:=layL_get (V:=V) (i:=i) m2
    rw [e1,e2]
    rcases Nat.lt_or_ge i o with q | q
    · rw [if_pos (show l.off+i<l.off+o by omega),if_pos q];exact cell i hil
    · rcases Nat.lt_or_ge i (o + V.length) with q2 | q2
      · rw [if_neg (show ¬ l.off + i < l.off + o by omega), if_pos (show l.off + i < l.off + o + V.length by omega), if_neg (show ¬ i < o by omega), if_pos q2]
        rw [show l.off+i - (l.off+o)=i - o by omega]
      · rw [if_neg (show ¬ l.off + i < l.off + o by omega), if_neg (show ¬ l.off + i < l.off + o + V.length by omega), if_neg (show ¬ i < o by omega), if_neg (show ¬ i < o + V.length by omega)]
        exact cell i hil
  · have q1 := layL_length (L := us) (V := V) (o := o) m2
    have q2:=layL_length (L:=C.toList) (V:=V) (o:=l.off+o+0) (by simp;omega)
    simp only [List.size_toArray]
    rw [q1,q2]
    simpa using k6
end
end Go.Eng
