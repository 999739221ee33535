/- A part of the proof. -/
import Derived.Laws.Build
import Derived.Laws.BytesArg
import Derived.Test.YthknocapablpaaaGreatDoorAg1

/- An evaluator of closed runs: values without addresses, rows of cells, structs and arrays. -/
namespace Go.Eng
variable {σ σ' : Sig} {η : Env} {P : Program}

theorem allOne_iff {l : List Value} : allOne l = true ↔ ∀ v ∈ l, v.oneCell' = true := by
  induction l with
  | nil => simp [allOne]
  | cons x l ih => simp [allOne, ih]
theorem allOne_append {a b : List Value} : allOne (a ++ b) = true ↔ allOne a = true ∧ allOne b = true := by
  simp only [allOne_iff, List.mem_append]
  exact ⟨fun h => ⟨fun v hv => h v (.inl hv), fun v hv => h v (.inr hv)⟩, fun h v hv => hv.elim (h.1 v) (h.2 v)⟩
theorem conc_one : ∀ {a : AV} {v : Value}, conc σ η a = some v → v.oneCell' = a.one
  | .int _ _, v, h => by rw [conc_int] at h; subst h; rfl
  | .bool _, v, h => by rw [conc_bool] at h; subst h; rfl
  | .str _, v, h => by obtain ⟨_, rfl⟩ := conc_str.1 h; rfl
  | .nilp, v, h => by rw [conc_nilp] at h; subst h; rfl
  | .ptr _ _, v, h => by obtain ⟨_, _, rfl⟩ := conc_ptr.1 h; rfl
  | .nils, v, h => by rw [conc_nils] at h; subst h; rfl
  | .slice .., v, h => by obtain ⟨_, _, rfl⟩ := conc_slice.1 h; rfl
  | .nilm, v, h => by rw [conc_nilm] at h; subst h; rfl
  | .map _, v, h => by obtain ⟨_, _, rfl⟩ := conc_map.1 h; rfl
  | .func .., v, h => by obtain ⟨_, _, _, _, rfl⟩ := conc_func.1 h; rfl
  | .nilf, v, h => by rw [conc_nilf] at h; subst h; rfl
  | .iface .., v, h => by obtain ⟨_, _, rfl⟩ := conc_iface.1 h; rfl
  | .nili, v, h => by rw [conc_nili] at h; subst h; rfl
  | .agg _, v, h => by obtain ⟨_, _, _, rfl⟩ := conc_agg.1 h; rfl
  | .tup _, v, h => by obtain ⟨_, _, rfl⟩ := conc_tup.1 h; rfl
  | .yld _, v, h => by obtain ⟨_, _, rfl⟩ := conc_yld.1 h; rfl
  | .sym i, v, h => by
    simp only [conc] at h
    split at h
    · rename_i e; cases h; simp only [symOk, Bool.and_eq_true] at e; exact e.1.1
    · cases h
theorem ones_ok : ∀ {l : List AV} {r : List Value}, ones l = true → concs σ η l = some r → allOne r = true
  | [], r, _, h => by simp [concs] at h; subst h; rfl
  | x :: l, r, h, k => by
    obtain ⟨v, vs, h1, h2, rfl⟩ := concs_cons.1 k
    simp only [ones] at h
    cases e : x.one with
    | false => simp [e] at h
    | true => simp only [e, cond_true] at h; simp [allOne, conc_one h1, e, ones_ok h h2]

mutual
theorem ofV_ok (σ : Sig) (η : Env) : ∀ {v : Value} {a : AV}, ofV v = some a → conc σ η a = some v
  | .bool b, a, h => by simp only [ofV, Option.some.injEq] at h; subst h; exact conc_bool.2 rfl
  | .int k n, a, h => by simp only [ofV, Option.some.injEq] at h; subst h; exact conc_int.2 rfl
  | .string s, a, h => by
    simp only [ofV, Option.some.injEq] at h; subst h
    refine conc_str.2 ⟨?_, ?_⟩
    · simp only [allB, List.all_map, List.all_eq_true]; intro x _; simp; exact x.toNat_lt
    · obtain ⟨⟨l⟩⟩ := s
      simp only [bs, List.map_map]
      congr
      rw [List.map_congr_left (g := id)]
      · simp
      · intro x _; simp [Function.comp, UInt8.ofNat_toNat, Nat.toUInt8]
  | .pointer none, a, h => by simp only [ofV, Option.some.injEq] at h; subst h; exact conc_nilp.2 rfl
  | .slice none 0 0, a, h => by simp only [ofV, Option.some.injEq] at h; subst h; exact conc_nils.2 rfl
  | .map none, a, h => by simp only [ofV, Option.some.injEq] at h; subst h; exact conc_nilm.2 rfl
  | .func (.func f) first capt, a, h => by
    simp only [ofV] at h
    split at h
    · rename_i x y e1 e2
      cases h
      exact conc_func.2 ⟨_, _, ofVs_ok σ η e1, ofVs_ok σ η e2, by simp⟩
    · cases h
  | .nilFunc, a, h => by simp only [ofV, Option.some.injEq] at h; subst h; exact conc_nilf.2 rfl
  | .iface t v, a, h => by
    simp only [ofV] at h
    cases e : ofV v with
    | none => simp [e] at h
    | some x => simp only [e, Option.map_some, Option.some.injEq] at h; subst h; exact conc_iface.2 ⟨_, ofV_ok σ η e, rfl⟩
  | .nilIface, a, h => by simp only [ofV, Option.some.injEq] at h; subst h; exact conc_nili.2 rfl
  | .agg cs, a, h => by
    simp only [ofV] at h
    split at h
    · rename_i l e
      cases eo : ones l with
      | false => simp [eo] at h
      | true =>
        simp only [eo, cond_true, Option.some.injEq] at h
        subst h
        exact conc_agg.2 ⟨_, ofVs_ok σ η e, ones_ok eo (ofVs_ok σ η e), by simp⟩
    · cases h
  | .tuple cs, a, h => by
    simp only [ofV] at h
    cases e : ofVs cs.toList with
    | none => simp [e] at h
    | some l => simp only [e, Option.map_some, Option.some.injEq] at h; subst h; exact conc_tup.2 ⟨_, ofVs_ok σ η e, by simp⟩
  | .float _ _, a, h => by simp [ofV] at h
  | .complex _ _ _, a, h => by simp [ofV] at h
  | .pointer (some _), a, h => by simp [ofV] at h
  | .slice (some _) _ _, a, h => by simp [ofV] at h
  | .slice none (n + 1) c, a, h => by simp [ofV] at h
  | .slice none 0 (c + 1), a, h => by simp [ofV] at h
  | .map (some _), a, h => by simp [ofV] at h
  | .chan _, a, h => by simp [ofV] at h
  | .func (.method _) _ _, a, h => by simp [ofV] at h
  | .func (.methodOf _ _) _ _, a, h => by simp [ofV] at h
  | .func (.via _ _ _ _) _ _, a, h => by simp [ofV] at h
  | .func (.yield _) _ _, a, h => by simp [ofV] at h
theorem ofVs_ok (σ : Sig) (η : Env) : ∀ {l : List Value} {a : List AV}, ofVs l = some a → concs σ η a = some l
  | [], a, h => by simp only [ofVs, Option.some.injEq] at h; subst h; rfl
  | x :: l, a, h => by
    simp only [ofVs] at h
    split at h
    · rename_i u us e1 e2
      cases h
      exact concs_cons.2 ⟨_, _, ofV_ok σ η e1, ofVs_ok σ η e2, rfl⟩
    · cases h
end

/-- The cells of a value that is laid. -/
theorem cells_ok {a : AV} {v : Value} (h : conc σ η a = some v) (hl : a.laid = true) : concs σ η a.cells = some v.cells.toList ∧ allOne v.cells.toList = true := by
  have one : ∀ {a : AV} {v : Value}, a.one = true → conc σ η a = some v → a.cells = [a] → v.cells = #[v] → concs σ η a.cells = some v.cells.toList ∧ allOne v.cells.toList = true := by
    intro a v ho h e1 e2
    rw [e1, e2]
    exact ⟨concs_cons.2 ⟨v, [], h, rfl, rfl⟩, by simp [allOne, conc_one h, ho]⟩
  cases a with
  | agg l => obtain ⟨vs, h1, h2, rfl⟩ := conc_agg.1 h; exact ⟨by simpa [AV.cells, Value.cells] using h1, by simpa [Value.cells] using h2⟩
  | tup l => cases hl
  | sym i =>
    have ho := conc_one h
    refine one rfl h rfl ?_
    cases v <;> first | rfl | (simp [Value.oneCell', AV.one] at ho)
  | _ =>
    have ho := conc_one h
    refine one rfl h rfl ?_
    cases v <;> first | rfl | (simp [Value.oneCell', AV.one] at ho)

theorem info_of_size {t : TypeId} {n : Nat} (h : size? P t = some n) : (sizeOf t : Sem Nat).run P = fun w => .ok n w := by
  funext w
  simp only [size?, Option.map_eq_some_iff] at h
  obtain ⟨i, hi, rfl⟩ := h
  simp [sizeOf, typeInfo, hi]
theorem run_sizeOf? {t : TypeId} {n : Nat} (h : size? P t = some n) (w : World) : (sizeOf t).run P w = .ok n w := congrFun (info_of_size h) w
theorem cellsOf_of {t : TypeId} {n : Nat} (h : size? P t = some n) : P.cellsOf t = n := by
  simp only [size?, Option.map_eq_some_iff] at h
  obtain ⟨i, hi, rfl⟩ := h
  simp [Program.cellsOf, hi]
theorem run_zero? {t : TypeId} {z : AV} (h : zero? P t = some z) : ∃ v, (∀ σ η, conc σ η z = some v) ∧ z.laid = true ∧ ∀ w, (zeroValue t).run P w = .ok v w := by
  simp only [zero?, Option.bind_eq_some_iff] at h
  obtain ⟨i, hi, v, hv, x, hx, hb⟩ := h
  cases e : x.laid with
  | false => simp [e] at hb
  | true =>
    simp only [e, cond_true, Option.some.injEq] at hb
    subst hb
    exact ⟨v, fun σ η => ofV_ok σ η hx, e, fun w => by simp [zeroValue, typeInfo, hi, hv]⟩
theorem run_agg? {t : TypeId} {b : Bool} (h : agg? P t = some b) (w : World) : (isAgg t).run P w = .ok b w := by
  simp only [agg?, Option.map_eq_some_iff] at h
  obtain ⟨d, hd, rfl⟩ := h
  simp only [isAgg, Sem.run_bind, run_underlying hd, Result.andThen_ok]
  cases d <;> rfl

/-! ### rows -/
theorem nth_eq : ∀ (l : List AV) (n : Nat), nth l n = l[n]?
  | [], _ => by simp [nth]
  | x :: l, 0 => by simp [nth]
  | x :: l, n + 1 => by simp [nth, nth_eq l n]
theorem drop'_eq : ∀ (l : List AV) (n : Nat), drop' l n = l.drop n
  | [], _ => by simp [drop']
  | x :: l, 0 => by simp [drop']
  | x :: l, n + 1 => by simp [drop', drop'_eq l n]
theorem take?_eq : ∀ {l : List AV} {n : Nat} {r : List AV}, take? l n = some r → r = l.take n ∧ n ≤ l.length
  | l, 0, r, h => by cases l <;> simp [take?] at h <;> subst h <;> simp
  | [], n + 1, r, h => by simp [take?] at h
  | x :: l, n + 1, r, h => by
    simp only [take?, Option.map_eq_some_iff] at h
    obtain ⟨a, h1, rfl⟩ := h
    obtain ⟨rfl, h2⟩ := take?_eq h1
    simp [h2]
theorem row?_eq {l : List AV} {o n : Nat} {r : List AV} (h : row? l o n = some r) : r = (l.drop o).take n ∧ r.length = n ∧ (0 < n → o + n ≤ l.length) := by
  unfold row? at h
  rw [drop'_eq] at h
  obtain ⟨h1, h2⟩ := take?_eq h
  rw [List.length_drop] at h2
  refine ⟨h1, by rw [h1]; simp; omega, by omega⟩
theorem concs_drop : ∀ {l : List AV} {r : List Value} (n : Nat), concs σ η l = some r → concs σ η (l.drop n) = some (r.drop n)
  | l, r, 0, h => by simpa using h
  | [], r, n + 1, h => by simp [concs] at h; subst h; simp [concs]
  | x :: l, r, n + 1, h => by obtain ⟨v, vs, _, h2, rfl⟩ := concs_cons.1 h; simpa using concs_drop n h2
theorem concs_take : ∀ {l : List AV} {r : List Value} (n : Nat), concs σ η l = some r → concs σ η (l.take n) = some (r.take n)
  | l, r, 0, h => by simp [concs]
  | [], r, n + 1, h => by simp [concs] at h; subst h; simp [concs]
  | x :: l, r, n + 1, h => by obtain ⟨v, vs, h1, h2, rfl⟩ := concs_cons.1 h; simpa using concs_cons.2 ⟨_, _, h1, concs_take n h2, rfl⟩
theorem concs_row {l : List AV} {r : List Value} {o n : Nat} {a : List AV} (h : concs σ η l = some r) (k : row? l o n = some a) : concs σ η a = some ((r.drop o).take n) ∧ a.length = n ∧ (0 < n → o + n ≤ r.length) := by
  obtain ⟨rfl, h2, h3⟩ := row?_eq k
  rw [concs_length h]
  exact ⟨concs_take n (concs_drop o h), h2, h3⟩

def layL (L : List Value) (o : Nat) (V : List Value) : List Value := L.take o ++ V ++ L.drop (o + V.length)
theorem lay?_ok : ∀ {l : List AV} {o : Nat} {vs r : List AV} {L V : List Value}, lay? l o vs = some r → concs σ η l = some L → concs σ η vs = some V → concs σ η r = some (layL L o V) ∧ o + V.length ≤ L.length ∧ r.length = l.length
  | l, 0, [], r, L, V, h, h1, h2 => by
    simp [lay?] at h; subst h; simp [concs] at h2; subst h2
    exact ⟨by simpa [layL] using h1, by simp, rfl⟩
  | [], 0, v :: vs, r, L, V, h, h1, h2 => by simp [lay?] at h
  | x :: l, 0, v :: vs, r, L, V, h, h1, h2 => by
    simp only [lay?, Option.map_eq_some_iff] at h
    obtain ⟨a, h3, rfl⟩ := h
    obtain ⟨u, us, h4, h5, rfl⟩ := concs_cons.1 h1
    obtain ⟨y, ys, h6, h7, rfl⟩ := concs_cons.1 h2
    obtain ⟨h8, h9, h10⟩ := lay?_ok h3 h5 h7
    refine ⟨concs_cons.2 ⟨_, _, h6, h8, ?_⟩, by simp at h9 ⊢; omega, by simp [h10]⟩
    simp [layL, Nat.add_comm]
  | [], o + 1, vs, r, L, V, h, h1, h2 => by simp [lay?] at h
  | x :: l, o + 1, vs, r, L, V, h, h1, h2 => by
    simp only [lay?, Option.map_eq_some_iff] at h
    obtain ⟨a, h3, rfl⟩ := h
    obtain ⟨u, us, h4, h5, rfl⟩ := concs_cons.1 h1
    obtain ⟨h8, h9, h10⟩ := lay?_ok h3 h5 h2
    refine ⟨concs_cons.2 ⟨_, _, h4, h8, ?_⟩, by simp at h9 ⊢; omega, by simp [h10]⟩
    simp only [layL, List.take_succ_cons, List.cons_append]
    congr 1
    rw [Nat.add_right_comm, List.drop_succ_cons]
theorem layL_length {L V : List Value} {o : Nat} (h : o + V.length ≤ L.length) : (layL L o V).length = L.length := by
  simp [layL]; omega
theorem layL_one {L V : List Value} {o : Nat} (h1 : allOne L = true) (h2 : allOne V = true) : allOne (layL L o V) = true := by
  rw [allOne_iff] at h1 h2
  simp only [layL, allOne_append]
  refine ⟨⟨allOne_iff.2 fun v hv => h1 v (List.mem_of_mem_take hv), allOne_iff.2 h2⟩, allOne_iff.2 fun v hv => h1 v (List.mem_of_mem_drop hv)⟩

theorem fold_lay : ∀ (V : List Value) (A : Array Value) (off j : Nat), off + j + V.length ≤ A.size →
    ((V.zipIdx j).foldl (fun (cs : Array Value) (x : Value × Nat) => cs.setIfInBounds (off + x.2) x.1) A).toList = layL A.toList (off + j) V
  | [], A, off, j, _ => by simp [layL]
  | v :: V, A, off, j, h => by
    simp only [List.zipIdx_cons, List.foldl_cons]
    simp only [List.length_cons] at h
    rw [fold_lay V _ off (j + 1) (by simp; omega)]
    have hl : off + j < A.toList.length := by simp; omega
    simp only [layL, Array.toList_setIfInBounds]
    have e1 : (A.toList.set (off + j) v).take (off + (j + 1)) = A.toList.take (off + j) ++ [v] := by
      rw [← Nat.add_assoc, List.take_succ_eq_append_getElem (by simpa using hl)]
      simp [List.take_set]
      exact List.set_eq_of_length_le (by simp; omega)
    have e2 : (A.toList.set (off + j) v).drop (off + (j + 1) + V.length) = A.toList.drop (off + j + (v :: V).length) := by
      rw [List.drop_set_of_lt (by omega)]
      simp only [List.length_cons]
      congr 1
      omega
    rw [e1, e2]
    simp
end Go.Eng

/- An evaluator of closed runs: structs, arrays, addresses, texts, and all operations that are reckoned by their operands alone. -/
namespace Go.Eng
variable {σ σ' : Sig} {η : Env} {P : Program}

/-- Parts beside their places. -/
def PartsR (σ : Sig) (η : Env) : List (Nat × AV) → List (Nat × Value) → Prop
  | [], [] => True
  | (i, a) :: l, (j, v) :: r => i = j ∧ conc σ η a = some v ∧ PartsR σ η l r
  | _, _ => False

theorem fillA_ok {pl : List (Nat × Nat)} {place : Nat → Option (Nat × Nat)} (hp : ∀ i x, pl[i]? = some x → place i = some x) : ∀ {parts : List (Nat × AV)} {ps : List (Nat × Value)} {cs r : List AV} {C : Array Value}, fillA pl cs parts = some r → PartsR σ η parts ps →
    concs σ η cs = some C.toList → allOne C.toList = true → ∃ R : Array Value, Instr.fill place C ps = some R ∧ concs σ η r = some R.toList ∧ allOne R.toList = true ∧ R.size = C.size
  | [], [], cs, r, C, h, _, h1, h2 => by simp [fillA] at h; subst h; exact ⟨C, rfl, h1, h2, rfl⟩
  | (i, a) :: parts, (j, v) :: ps, cs, r, C, h, hr, h1, h2 => by
    obtain ⟨rfl, ha, hr⟩ := hr
    simp only [fillA] at h
    cases e : pl[i]? with
    | none => simp [e] at h
    | some x =>
      obtain ⟨off, size⟩ := x
      simp only [e] at h
      cases ec : (Nat.beq a.cells.length size && a.laid) with
      | false => simp [ec] at h
      | true =>
        simp only [ec, cond_true, Option.bind_eq_some_iff] at h
        rw [Bool.and_eq_true] at ec
        obtain ⟨cs1, h3, h4⟩ := h
        obtain ⟨k1, k2⟩ := cells_ok ha ec.2
        obtain ⟨l1, l2, l3⟩ := lay?_ok h3 h1 k1
        have hsz : v.cells.size = size := by
          have := concs_length k1
          rw [Nat.eq_of_beq_eq_true ec.1] at this
          simpa using this
        have hf := fold_lay v.cells.toList C off 0 (by simpa using l2)
        simp only [Nat.add_zero] at hf
        obtain ⟨R, r1, r2, r3, r4⟩ := fillA_ok hp (C := ⟨layL C.toList off v.cells.toList⟩) h4 hr (by simpa using l1) (by simpa using layL_one h2 k2)
        refine ⟨R, ?_, r2, r3, ?_⟩
        · simp only [Instr.fill, hp i _ e]
          have c1 : (decide (v.cells.size ≠ size) || decide (off + v.cells.size > C.size)) = false := by
            simp [hsz]; simp [hsz] at l2; omega
          rw [c1]
          simp only [Bool.false_eq_true, if_false]
          rw [← r1]
          congr 1
          have : v.cells.zipIdx.foldl (fun (cs : Array Value) (x : Value × Nat) => cs.setIfInBounds (off + x.2) x.1) C = (v.cells.toList.zipIdx 0).foldl (fun (cs : Array Value) (x : Value × Nat) => cs.setIfInBounds (off + x.2) x.1) C := by
            rw [← Array.foldl_toList, Array.toList_zipIdx]
          rw [← hf]
          simp only [← this]
        · rw [r4]; have := layL_length l2; simpa using this
  | [], _ :: _, _, _, _, _, hr, _, _ => hr.elim
  | _ :: _, [], _, _, _, _, hr, _, _ => hr.elim

theorem places_ok : ∀ {fs : List Field} {pl : List (Nat × Nat)}, places? P fs = some pl → ∀ w, (fs.mapM (fun f => (do pure (f.offset, ← sizeOf f.type) : Sem (Nat × Nat)))).run P w = .ok pl w
  | [], pl, h, w => by simp [places?] at h; subst h; rfl
  | f :: fs, pl, h, w => by
    simp only [places?] at h
    split at h
    · rename_i n l e1 e2
      cases h
      simp only [List.mapM_cons, Sem.run_bind, run_sizeOf? e1, Result.andThen_ok, Sem.run_pure, places_ok e2 w]
    · cases h

theorem arrPlaces_get (z : Nat) : ∀ (n i j : Nat), (arrPlaces z i n)[j]? = if j < n then some ((i + j) * z, z) else none
  | 0, i, j => by simp [arrPlaces]
  | n + 1, i, 0 => by simp [arrPlaces]
  | n + 1, i, j + 1 => by
    simp only [arrPlaces, List.getElem?_cons_succ, arrPlaces_get z n]
    have : i + 1 + j = i + (j + 1) := by omega
    rw [this]; simp

theorem aBuild_ok {t : TypeId} {parts : List (Nat × AV)} {ps : Array (Nat × Value)} {r : AV} (h : aBuild P t parts = some r) (hp : PartsR σ η parts ps.toList) : ∃ u, conc σ η r = some u ∧ ∀ w, (Instr.build t ps).run P w = .ok u w := by
  unfold aBuild at h
  cases ez : zero? P t with
  | none => simp [ez] at h
  | some z =>
    simp only [ez] at h
    obtain ⟨zv, z1, z2, z3⟩ := run_zero? ez
    obtain ⟨c1, c2⟩ := cells_ok (z1 σ η) z2
    split at h
    · rename_i fs hu
      cases ep : places? P fs.toList with
      | none => simp [ep] at h
      | some pl =>
        simp only [ep, Option.map_eq_some_iff] at h
        obtain ⟨cs, h1, rfl⟩ := h
        obtain ⟨R, r1, r2, r3, _⟩ := fillA_ok (place := fun i => pl.toArray[i]?) (by intro i x hx; simpa using hx) h1 hp c1 c2
        refine ⟨_, conc_agg.2 ⟨_, r2, r3, rfl⟩, fun w => ?_⟩
        have hm : (fs.mapM (fun f => (do pure (f.offset, ← sizeOf f.type) : Sem (Nat × Nat)))).run P w = .ok pl.toArray w := by
          rw [← Array.toArray_toList (xs := fs), List.mapM_toArray, Sem.run_map, places_ok ep w]; rfl
        simp only [Instr.build, Sem.run_bind, z3, Result.andThen_ok, run_underlying hu, hm, r1, Sem.run_pure, Array.toArray_toList]
    · rename_i n e hu
      cases es : size? P e with
      | none => simp [es] at h
      | some s =>
        simp only [es, Option.map_eq_some_iff] at h
        obtain ⟨cs, h1, rfl⟩ := h
        obtain ⟨R, r1, r2, r3, _⟩ := fillA_ok (place := fun i => some (i * s, s)) (by
          intro i x hx; rw [arrPlaces_get] at hx; split at hx <;> simp at hx; rw [← hx]) h1 hp c1 c2
        refine ⟨_, conc_agg.2 ⟨_, r2, r3, rfl⟩, fun w => ?_⟩
        simp only [Instr.build, Sem.run_bind, z3, Result.andThen_ok, run_underlying hu, run_sizeOf? es, r1, Sem.run_pure, Array.toArray_toList]
    · cases h

theorem aPart_ok {t : TypeId} {cs : List AV} {o : Nat} {r : AV} {C : Array Value} (h : aPart P t cs o = some r) (hc : concs σ η cs = some C.toList) (h1 : allOne C.toList = true) : ∃ u, conc σ η r = some u ∧ ∀ w, (part t C o).run P w = .ok u w := by
  unfold aPart at h
  split at h
  · rename_i n ea es
    simp only [Option.map_eq_some_iff] at h
    obtain ⟨a, ha, rfl⟩ := h
    obtain ⟨k1, k2, k3⟩ := concs_row hc ha
    refine ⟨_, conc_agg.2 ⟨_, k1, allOne_iff.2 fun v hv => allOne_iff.1 h1 v (List.mem_of_mem_drop (List.mem_of_mem_take hv)), rfl⟩, fun w => ?_⟩
    simp only [part, Sem.run_bind, run_agg? ea, Result.andThen_ok, if_true, run_sizeOf? es, Sem.run_pure]
    congr 2
    apply Array.toList_inj.1
    simp [Array.toList_extract, List.take_drop]
  · rename_i ea
    rw [nth_eq] at h
    obtain ⟨v, h2, h3⟩ := (concs_get hc o).2 r h
    refine ⟨v, h3, fun w => ?_⟩
    have : C[o]? = some v := by simpa using h2
    simp only [part, Sem.run_bind, run_agg? ea, Result.andThen_ok, Bool.false_eq_true, if_false, this, Sem.run_pure]
  · cases h
end Go.Eng

/- An evaluator of closed runs: addresses, slices, texts. -/
namespace Go.Eng
variable {σ σ' : Sig} {η : Env} {P : Program}

theorem add_plain (b o n : Nat) : (⟨b, o, none⟩ : Addr).add n = ⟨b, o + n, none⟩ := by
  unfold Addr.add; split
  · rename_i h; subst h; rfl
  · rfl
theorem idx?_ok {a : AV} {i : Nat} {u : Value} (h : idx? a = some i) (ha : conc σ η a = some u) : ∃ k, u = .int k (Int.ofNat i) := by
  unfold idx? at h
  split at h
  · cases h; exact ⟨_, conc_int.1 ha⟩
  · cases h

theorem aField_ok {t : TypeId} {x r : AV} {i : Nat} {u : Value} (h : aField P t x i = some r) (ha : conc σ η x = some u) : ∃ z, conc σ η r = some z ∧ ∀ w, (Instr.field t u i).run P w = .ok z w := by
  unfold aField at h
  split at h
  · rename_i fs cs hu
    obtain ⟨vs, h1, h2, rfl⟩ := conc_agg.1 ha
    cases ef : fs[i]? with
    | none => simp [ef] at h
    | some f =>
      simp only [ef] at h
      obtain ⟨z, z1, z2⟩ := aPart_ok (C := vs.toArray) h (by simpa using h1) (by simpa using h2)
      exact ⟨z, z1, fun w => by simp [Instr.field, run_underlying hu, ef, asAgg, z2]⟩
  · cases h

theorem aFieldAddr_ok {t : TypeId} {x r : AV} {i : Nat} {u : Value} (h : aFieldAddr P t x i = some r) (ha : conc σ η x = some u) : ∃ z, conc σ η r = some z ∧ ∀ w, (Instr.fieldAt t u i).run P w = .ok z w := by
  unfold aFieldAddr at h
  split at h
  · rename_i fs n o hu
    obtain ⟨l, h1, rfl⟩ := conc_ptr.1 ha
    cases ef : fs[i]? with
    | none => simp [ef] at h
    | some f =>
      simp only [ef] at h
      cases es : size? P f.type with
      | none => simp [es] at h
      | some s =>
        cases s with
        | zero => simp [es] at h
        | succ s =>
          simp only [es, Option.some.injEq] at h
          subst h
          exact ⟨_, conc_ptr.2 ⟨l, h1, rfl⟩, fun w => by simp [Instr.fieldAt, run_underlying hu, ef, Instr.sureAddr, fieldPlace, run_sizeOf? es, add_plain, Nat.add_assoc]⟩
  · cases h

theorem aIndexAddr_ok {t : TypeId} {x i r : AV} {u v : Value} (h : aIndexAddr P t x i = some r) (ha : conc σ η x = some u) (hi : conc σ η i = some v) : ∃ z, conc σ η r = some z ∧ ∀ w, (Instr.indexAt t u v).run P w = .ok z w := by
  unfold aIndexAddr at h
  cases ei : idx? i with
  | none => simp [ei] at h
  | some n =>
    simp only [ei] at h
    obtain ⟨k, rfl⟩ := idx?_ok ei hi
    split at h
    · rename_i len e nm o hu
      obtain ⟨l, h1, rfl⟩ := conc_ptr.1 ha
      cases eb : Nat.ble (n + 1) len with
      | false => simp [eb] at h
      | true =>
        have hb := Nat.le_of_ble_eq_true eb
        simp only [eb, cond_true, Option.map_eq_some_iff] at h
        obtain ⟨s, es, rfl⟩ := h
        refine ⟨_, conc_ptr.2 ⟨l, h1, rfl⟩, fun w => ?_⟩
        have c1 : (0 : Int) ≤ Int.ofNat n ∧ Int.ofNat n < (len : Int) := by simp only [Int.ofNat_eq_natCast]; omega
        simp only [Instr.indexAt, asIntOf, Sem.run_bind, Sem.run_pure, Result.andThen_ok, run_underlying hu, Instr.sureAddr, if_pos c1, run_sizeOf? es, add_plain]
        simp [Nat.add_assoc]
    · rename_i e nm o len cap fl hu
      obtain ⟨l, h1, rfl⟩ := conc_slice.1 ha
      cases eb : Nat.ble (n + 1) len with
      | false => simp [eb] at h
      | true =>
        have hb := Nat.le_of_ble_eq_true eb
        simp only [eb, cond_true, Option.map_eq_some_iff] at h
        obtain ⟨s, es, rfl⟩ := h
        refine ⟨_, conc_ptr.2 ⟨l, h1, rfl⟩, fun w => ?_⟩
        have c1 : (0 : Int) ≤ Int.ofNat n ∧ Int.ofNat n < (len : Int) := by simp only [Int.ofNat_eq_natCast]; omega
        simp only [Instr.indexAt, asIntOf, Sem.run_bind, Sem.run_pure, Result.andThen_ok, run_underlying hu, if_pos c1, run_sizeOf? es, add_plain]
        simp [Nat.add_assoc]
    · cases h

theorem nsNth_eq : ∀ (l : List Nat) (n : Nat), nsNth l n = l[n]?
  | [], _ => by simp [nsNth]
  | x :: l, 0 => by simp [nsNth]
  | x :: l, n + 1 => by simp [nsNth, nsNth_eq l n]
theorem nsDrop_eq : ∀ (l : List Nat) (n : Nat), nsDrop l n = l.drop n
  | [], _ => by simp [nsDrop]
  | x :: l, 0 => by simp [nsDrop]
  | x :: l, n + 1 => by simp [nsDrop, nsDrop_eq l n]
theorem nsTake_eq : ∀ (l : List Nat) (n : Nat), nsTake l n = l.take n
  | [], _ => by simp [nsTake]
  | x :: l, 0 => by simp [nsTake]
  | x :: l, n + 1 => by simp [nsTake, nsTake_eq l n]
theorem bs_get (l : List Nat) (n : Nat) : (bs l)[n]? = (l[n]?).map Nat.toUInt8 := by
  by_cases h : n < l.length
  · rw [ByteArray.getElem?_lt' _ _ (by rw [bs_size]; exact h)]
    rw [List.getElem?_eq_getElem h]
    simp only [Option.map_some, Option.some.injEq]
    show (bs l).data[n]'(by simp [bs]; exact h) = _
    simp [bs]
  · rw [ByteArray.getElem?_ge' _ _ (by rw [bs_size]; exact h), List.getElem?_eq_none (by omega)]; rfl
theorem bs_extract (l : List Nat) (a b : Nat) : (bs l).extract a b = bs ((l.drop a).take (b - a)) := by
  have : ((bs l).extract a b).data = (bs ((l.drop a).take (b - a))).data := by
    simp [bs, ByteArray.data_extract, List.map_take, List.map_drop]
  cases h : (bs l).extract a b; cases h' : bs ((l.drop a).take (b - a)); simp_all
theorem allB_sub {l r : List Nat} (h : allB l = true) (k : ∀ x ∈ r, x ∈ l) : allB r = true := by
  simp only [allB, List.all_eq_true] at h ⊢; exact fun x hx => h x (k x hx)

theorem aIndex_ok {t : TypeId} {x i r : AV} {u v : Value} (h : aIndex P t x i = some r) (ha : conc σ η x = some u) (hi : conc σ η i = some v) : ∃ z, conc σ η r = some z ∧ ∀ w, (Instr.index t u v).run P w = .ok z w := by
  unfold aIndex at h
  cases ei : idx? i with
  | none => simp [ei] at h
  | some n =>
    simp only [ei] at h
    obtain ⟨k, rfl⟩ := idx?_ok ei hi
    split at h
    · rename_i len e cs hu
      obtain ⟨vs, h1, h2, rfl⟩ := conc_agg.1 ha
      cases eb : Nat.ble (n + 1) len with
      | false => simp [eb] at h
      | true =>
        have hb := Nat.le_of_ble_eq_true eb
        simp only [eb, cond_true, Option.bind_eq_some_iff] at h
        obtain ⟨s, es, hp⟩ := h
        obtain ⟨z, z1, z2⟩ := aPart_ok (C := vs.toArray) hp (by simpa using h1) (by simpa using h2)
        refine ⟨z, z1, fun w => ?_⟩
        have c1 : (0 : Int) ≤ Int.ofNat n ∧ Int.ofNat n < (len : Int) := by simp only [Int.ofNat_eq_natCast]; omega
        simp only [Instr.index, asIntOf, Sem.run_bind, Sem.run_pure, Result.andThen_ok, run_underlying hu, if_pos c1, run_sizeOf? es]
        exact z2 w
    · rename_i s hu
      obtain ⟨h1, rfl⟩ := conc_str.1 ha
      rw [nsNth_eq] at h
      simp only [Option.map_eq_some_iff] at h
      obtain ⟨b, hb, rfl⟩ := h
      have hlt : b < 256 := by
        simp only [allB, List.all_eq_true, decide_eq_true_eq] at h1
        exact h1 b (List.mem_of_getElem? hb)
      refine ⟨_, conc_int.2 rfl, fun w => ?_⟩
      have c1 : (0 : Int) ≤ Int.ofNat n := by simp
      simp only [Instr.index, asIntOf, Sem.run_bind, Sem.run_pure, Result.andThen_ok, run_underlying hu, if_pos c1]
      have : (bs s)[(Int.ofNat n).toNat]? = some b.toUInt8 := by
        show (bs s)[n]? = _
        rw [bs_get, hb]; rfl
      rw [this]
      simp only [Sem.run_pure, u8_toNat hlt]
      rfl
    · cases h

/-- Bounds, of options of values. -/
def OptR (σ : Sig) (η : Env) : Option AV → Option Value → Prop
  | none, none => True
  | some a, some v => conc σ η a = some v
  | _, _ => False

theorem run_sliceBound {x : Value} {k : IntKind} {i y : Nat} {cd : BoundsCode} (hx : x = .int k (Int.ofNat i)) (h : i ≤ y) (w : World) : (Instr.sliceBound x y cd).run P w = .ok i w := by
  subst hx
  have c1 : (0 : Int) ≤ Int.ofNat i ∧ Int.ofNat i ≤ (y : Int) := by simp only [Int.ofNat_eq_natCast]; omega
  simp only [Instr.sliceBound, asIntOf, Sem.run_bind, Sem.run_pure, Result.andThen_ok, if_pos c1]
  rfl

def mxm {α β : Type} (o : Option α) (a b : β) : β := match o with | none => a | some _ => b

theorem aBounds_ok {len cap s l h m : Nat} {lo hi mx : Option AV} {lo' hi' mx' : Option Value} {isS : Bool} (e : aBounds len cap lo hi mx = some (l, h, m)) (h1 : OptR σ η lo lo') (h2 : OptR σ η hi hi') (h3 : OptR σ η mx mx') (hl : hi = none → len ≤ cap) :
    (∀ w, (Instr.sliceBounds isS len (cap + s) lo' hi' mx').run P w = .ok (l, h, mxm mx (m + s) m) w) ∧ l ≤ h ∧ h ≤ m ∧ m ≤ cap ∧ (mx = none → m = cap) := by
  unfold aBounds at e
  simp only [Option.bind_eq_some_iff] at e
  obtain ⟨m1, e1, h0, e2, l0, e3, e4⟩ := e
  simp only [Option.some.injEq, Prod.mk.injEq] at e4
  obtain ⟨rfl, rfl, rfl⟩ := e4
  have bound : ∀ {a : AV} {v : Value} {y n : Nat}, ((idx? a).bind fun n => bif Nat.ble n y then some n else none) = some n → conc σ η a = some v → n ≤ y ∧ ∃ k, v = .int k (Int.ofNat n) := by
    intro a v y n hb hc
    simp only [Option.bind_eq_some_iff] at hb
    obtain ⟨q, q1, q2⟩ := hb
    cases eb : Nat.ble q y with
    | false => simp [eb] at q2
    | true => simp only [eb, cond_true, Option.some.injEq] at q2; subst q2; exact ⟨Nat.le_of_ble_eq_true eb, idx?_ok q1 hc⟩
  have hlo : l0 ≤ h0 ∧ (lo' = none ∧ l0 = 0 ∨ ∃ k, lo' = some (.int k (Int.ofNat l0))) := by
    cases lo with
    | none => cases lo' with
      | some _ => exact h1.elim
      | none => simp only [Option.some.injEq] at e3; subst e3; exact ⟨Nat.zero_le _, .inl ⟨rfl, rfl⟩⟩
    | some a => cases lo' with
      | none => exact h1.elim
      | some v => obtain ⟨q1, k, q2⟩ := bound e3 h1; exact ⟨q1, .inr ⟨k, by rw [q2]⟩⟩
  cases mx with
  | none =>
    cases mx' with
    | some _ => exact h3.elim
    | none =>
      simp only [Option.some.injEq] at e1
      subst e1
      have hhi : h0 ≤ cap ∧ (hi' = none ∧ h0 = len ∨ ∃ k, hi' = some (.int k (Int.ofNat h0))) := by
        cases hi with
        | none => cases hi' with
          | some _ => exact h2.elim
          | none => simp only [Option.some.injEq] at e2; subst e2; exact ⟨hl rfl, .inl ⟨rfl, rfl⟩⟩
        | some a => cases hi' with
          | none => exact h2.elim
          | some v => obtain ⟨q1, k, q2⟩ := bound e2 h2; exact ⟨q1, .inr ⟨k, by rw [q2]⟩⟩
      have hc := hhi.1
      refine ⟨fun w => ?_, hlo.1, hhi.1, Nat.le_refl _, fun _ => rfl⟩
      rcases hlo with ⟨ql, ⟨rfl, rfl⟩ | ⟨k, rfl⟩⟩ <;> rcases hhi with ⟨qh, ⟨rfl, rfl⟩ | ⟨k', rfl⟩⟩
      · simp only [mxm, Instr.sliceBounds, Sem.run_bind, Sem.run_pure, Result.andThen_ok]
      · simp only [mxm, Instr.sliceBounds, Sem.run_bind, Sem.run_pure, Result.andThen_ok, run_sliceBound (P := P) rfl (Nat.le_trans hc (Nat.le_add_right cap s))]
      · simp only [mxm, Instr.sliceBounds, Sem.run_bind, Sem.run_pure, Result.andThen_ok, run_sliceBound (P := P) rfl ql]
      · simp only [mxm, Instr.sliceBounds, Sem.run_bind, Sem.run_pure, Result.andThen_ok, run_sliceBound (P := P) rfl (Nat.le_trans hc (Nat.le_add_right cap s)), run_sliceBound (P := P) rfl ql]
  | some am =>
    cases mx' with
    | none => exact h3.elim
    | some vm =>
      obtain ⟨m1', km, rfl⟩ := bound e1 h3
      cases hi with
      | none => simp at e2
      | some a => cases hi' with
        | none => exact h2.elim
        | some v =>
          obtain ⟨qh, k', rfl⟩ := bound e2 h2
          refine ⟨fun w => ?_, hlo.1, qh, m1', fun e => by cases e⟩
          rcases hlo with ⟨ql, ⟨rfl, rfl⟩ | ⟨k, rfl⟩⟩
          · simp only [mxm, Instr.sliceBounds, Sem.run_bind, Sem.run_pure, Result.andThen_ok, run_sliceBound (P := P) rfl (Nat.le_trans m1' (Nat.le_add_right cap s)), run_sliceBound (P := P) rfl qh]
          · simp only [mxm, Instr.sliceBounds, Sem.run_bind, Sem.run_pure, Result.andThen_ok, run_sliceBound (P := P) rfl (Nat.le_trans m1' (Nat.le_add_right cap s)), run_sliceBound (P := P) rfl qh, run_sliceBound (P := P) rfl ql]

theorem aSlice_ok {t : TypeId} {x r : AV} {lo hi mx : Option AV} {u : Value} {lo' hi' mx' : Option Value} (h : aSlice P t x lo hi mx = some r) (ha : conc σ η x = some u) (h1 : OptR σ η lo lo') (h2 : OptR σ η hi hi') (h3 : OptR σ η mx mx') :
    ∃ z, conc σ η r = some z ∧ ∀ w, (Instr.sliceAt t u lo' hi' mx').run P w = .ok z w := by
  unfold aSlice at h
  split at h
  · rename_i s hu
    cases mx with
    | some _ => simp at h
    | none =>
      cases mx' with
      | some _ => exact h3.elim
      | none =>
        simp only [Option.bind_eq_some_iff] at h
        obtain ⟨⟨l, hh, m⟩, hb, h⟩ := h
        simp only [fNats_eq, Option.some.injEq] at h
        subst h
        obtain ⟨b1, rfl⟩ := conc_str.1 ha
        obtain ⟨k1, k2, k3, k4, k5⟩ := aBounds_ok (P := P) (s := 0) (isS := false) hb h1 h2 (show OptR σ η none none from trivial) (fun _ => Nat.le_refl _)
        refine ⟨.string ((bs s).extract l hh), ?_, fun w => ?_⟩
        · rw [bs_extract, nsTake_eq, nsDrop_eq]
          exact conc_str.2 ⟨allB_sub b1 fun x hx => List.mem_of_mem_drop (List.mem_of_mem_take hx), rfl⟩
        · have := k1 w
          simp only [Nat.add_zero] at this
          simp only [Instr.sliceAt, Sem.run_bind, run_underlying hu, Result.andThen_ok, Instr.slice, Option.isSome_none, Bool.false_eq_true, if_false, bs_size, this, Sem.run_pure]
  · rename_i e n o len cap fl hu
    obtain ⟨lc, hlc, rfl⟩ := conc_slice.1 ha
    cases hle : Nat.ble len cap with
    | false => simp [hle] at h
    | true =>
      have hle' := Nat.le_of_ble_eq_true hle
      simp only [hle, Bool.not_true, cond_false, Option.bind_eq_some_iff] at h
      obtain ⟨⟨l, hh, m⟩, hb, s, hs, hr⟩ := h
      obtain ⟨k1, k2, k3, k4, k5⟩ := aBounds_ok (P := P) (s := if fl then lc.slack else 0) (isS := true) hb h1 h2 h3 (fun _ => hle')
      have run : ∀ w, (Instr.sliceAt t (.slice (some ⟨lc.blk, lc.off + o, none⟩) len (cap + (if fl then lc.slack else 0))) lo' hi' mx').run P w = .ok (.slice (if (mxm mx (m + (if fl then lc.slack else 0)) m) = l then some ⟨lc.blk, lc.off + o, none⟩ else some ⟨lc.blk, lc.off + o + l * s, none⟩) (hh - l) ((mxm mx (m + (if fl then lc.slack else 0)) m) - l)) w := by
        intro w
        simp only [Instr.sliceAt, Sem.run_bind, run_underlying hu, Result.andThen_ok, Instr.slice, k1 w, run_sizeOf? hs, Sem.run_pure, Option.map_some, add_plain]
      cases mx with
      | some vm =>
        simp only [Option.some.injEq] at hr
        subst hr
        refine ⟨_, conc_slice.2 ⟨lc, hlc, rfl⟩, fun w => ?_⟩
        rw [run w]
        simp only [mxm]
        cases hm : Nat.beq m l with
        | true => have := Nat.eq_of_beq_eq_true hm; simp [this]
        | false => have : m ≠ l := fun q => by subst q; simp at hm
                   simp [this, Nat.add_assoc]
      | none =>
        cases fl with
        | false =>
          simp only [cond_false, Option.some.injEq] at hr
          subst hr
          refine ⟨_, conc_slice.2 ⟨lc, hlc, rfl⟩, fun w => ?_⟩
          rw [run w]
          simp only [mxm]
          cases hm : Nat.beq m l with
          | true => have := Nat.eq_of_beq_eq_true hm; simp [this]
          | false => have : m ≠ l := fun q => by subst q; simp at hm
                     simp [this, Nat.add_assoc]
        | true =>
          simp only [cond_true] at hr
          cases hm : (Nat.beq m l && !Nat.beq l 0) with
          | true => simp [hm] at hr
          | false =>
            simp only [hm, cond_false, Option.some.injEq] at hr
            subst hr
            refine ⟨_, conc_slice.2 ⟨lc, hlc, rfl⟩, fun w => ?_⟩
            rw [run w]
            simp only [mxm, if_true]
            congr 1
            by_cases hq : m + lc.slack = l
            · have h0 : l = 0 := by
                have : m = l := by omega
                subst this
                simp at hm
                exact hm
              subst h0
              have hm0 : m = 0 := by omega
              subst hm0
              simp
            · rw [if_neg hq]
              simp [Nat.add_assoc]
              omega
  · rename_i e hu
    rw [conc_nils] at ha
    subst ha
    simp only [Option.bind_eq_some_iff, Option.map_eq_some_iff] at h
    obtain ⟨⟨l, hh, m⟩, hb, s, hs, rfl⟩ := h
    obtain ⟨k1, k2, k3, k4, k5⟩ := aBounds_ok (P := P) (s := 0) (isS := true) hb h1 h2 h3 (fun _ => Nat.le_refl _)
    obtain rfl : m = 0 := by omega
    obtain rfl : hh = 0 := by omega
    obtain rfl : l = 0 := by omega
    refine ⟨_, conc_nils.2 rfl, fun w => ?_⟩
    have := k1 w
    cases mx <;> simp only [Nat.add_zero, mxm] at this <;> simp [Instr.sliceAt, run_underlying hu, Instr.slice, this, run_sizeOf? hs]
  · rename_i k e n o hu
    obtain ⟨lc, hlc, rfl⟩ := conc_ptr.1 ha
    simp only [Option.bind_eq_some_iff, Option.map_eq_some_iff] at h
    obtain ⟨⟨l, hh, m⟩, hb, s, hs, rfl⟩ := h
    obtain ⟨k1, k2, k3, k4, k5⟩ := aBounds_ok (P := P) (s := 0) (isS := false) hb h1 h2 h3 (fun _ => Nat.le_refl _)
    refine ⟨_, conc_slice.2 ⟨lc, hlc, rfl⟩, fun w => ?_⟩
    have := k1 w
    simp only [Nat.add_zero] at this
    have e' : mxm mx m m = m := by cases mx <;> rfl
    rw [e'] at this
    simp only [Instr.sliceAt, Sem.run_bind, run_underlying hu, Result.andThen_ok, Instr.sureAddr, Sem.run_pure, this, run_sizeOf? hs, add_plain]
    cases hm : Nat.beq m l with
    | true => have := Nat.eq_of_beq_eq_true hm; simp [this]
    | false => have : m ≠ l := fun q => by subst q; simp at hm
               simp [this, Nat.add_assoc]
  · cases h
end Go.Eng

/- An evaluator of closed runs: all operations that are reckoned by their operands alone are the model's. -/
namespace Go.Eng
variable {σ σ' : Sig} {η : Env} {P : Program}

theorem aConv_ok {s d : TypeId} {x r : AV} {u : Value} (h : aConv P s d x = some r) (ha : conc σ η x = some u) : ∃ z, conc σ η r = some z ∧ ∀ w, (convert s d u).run P w = .ok z w := by
  unfold aConv at h
  split at h
  · rename_i ds k q n hs hd
    cases h
    rw [conc_int] at ha; subst ha
    refine ⟨_, conc_int.2 rfl, fun w => ?_⟩
    simp only [convert, Sem.run_bind, run_underlying hs, run_underlying hd, Result.andThen_ok]
    simp [Conv.intToInt, wrapF_eq]
  · rename_i ds l hs hd
    cases h
    obtain ⟨h1, rfl⟩ := conc_str.1 ha
    refine ⟨_, conc_str.2 ⟨h1, rfl⟩, fun w => ?_⟩
    simp only [convert, Sem.run_bind, run_underlying hs, run_underlying hd, Result.andThen_ok]
    simp
  · cases h

theorem min2_ok {a b r : AV} {u v : Value} (h : min2A a b = some r) (ha : conc σ η a = some u) (hb : conc σ η b = some v) : ∃ z, conc σ η r = some z ∧ ∀ w, (Builtin.min2 u v).run P w = .ok z w := by
  unfold min2A at h
  split at h
  · rename_i k x k' y
    cases h
    rw [conc_int] at ha hb; subst ha hb
    refine ⟨_, conc_int.2 rfl, fun w => ?_⟩
    simp only [Builtin.min2, Sem.run_pure, iLe_iff]
    by_cases hq : y < x
    · simp [hq, show ¬ x ≤ y by omega]
    · simp [hq, show x ≤ y by omega]
  · rename_i x y
    cases h
    obtain ⟨h1, rfl⟩ := conc_str.1 ha
    obtain ⟨h2, rfl⟩ := conc_str.1 hb
    have e : ∀ w, (Op.stringOp .leq (bs x) (bs y)).run P w = .ok (.bool (!nsLt y x)) w := fun w => by simp only [Op.stringOp, bs_toList, nsLt_iff h2 h1]; rw [bytesLess_asymm_eq]; rfl
    refine ⟨.string (bs (bif nsLt y x then y else x)), conc_str.2 ⟨by cases nsLt y x <;> assumption, rfl⟩, fun w => ?_⟩
    simp only [Builtin.min2, Sem.run_bind, e, Result.andThen_ok, asBool, Sem.run_pure]
    cases nsLt y x <;> rfl
  · cases h
theorem max2_ok {a b r : AV} {u v : Value} (h : max2A a b = some r) (ha : conc σ η a = some u) (hb : conc σ η b = some v) : ∃ z, conc σ η r = some z ∧ ∀ w, (Builtin.max2 u v).run P w = .ok z w := by
  unfold max2A at h
  split at h
  · rename_i k x k' y
    cases h
    rw [conc_int] at ha hb; subst ha hb
    refine ⟨_, conc_int.2 rfl, fun w => ?_⟩
    simp only [Builtin.max2, Sem.run_pure, iLe_iff]
    by_cases hq : y > x
    · simp [hq, show ¬ y ≤ x by omega]
    · simp [hq, show y ≤ x by omega]
  · rename_i x y
    cases h
    obtain ⟨h1, rfl⟩ := conc_str.1 ha
    obtain ⟨h2, rfl⟩ := conc_str.1 hb
    have e : ∀ w, (Op.stringOp .geq (bs x) (bs y)).run P w = .ok (.bool (!nsLt x y)) w := fun w => by simp only [Op.stringOp, bs_toList, nsLt_iff h1 h2]; rfl
    refine ⟨.string (bs (bif nsLt x y then y else x)), conc_str.2 ⟨by cases nsLt x y <;> assumption, rfl⟩, fun w => ?_⟩
    simp only [Builtin.max2, Sem.run_bind, e, Result.andThen_ok, asBool, Sem.run_pure]
    cases nsLt x y <;> rfl
  · cases h
theorem foldA_ok {f : AV → AV → Option AV} {g : Value → Value → Sem Value} (hf : ∀ a b r u v, f a b = some r → conc σ η a = some u → conc σ η b = some v → ∃ z, conc σ η r = some z ∧ ∀ w, (g u v).run P w = .ok z w) :
    ∀ {l : List AV} {x r : AV} {u : Value} {vs : List Value}, foldA f x l = some r → conc σ η x = some u → concs σ η l = some vs → ∃ z, conc σ η r = some z ∧ ∀ w, (vs.foldlM g u).run P w = .ok z w
  | [], x, r, u, vs, h, hx, hl => by simp [foldA] at h; subst h; simp [concs] at hl; subst hl; exact ⟨u, hx, fun w => rfl⟩
  | y :: l, x, r, u, vs, h, hx, hl => by
    simp only [foldA, Option.bind_eq_some_iff] at h
    obtain ⟨q, h1, h2⟩ := h
    obtain ⟨v, vs', h3, h4, rfl⟩ := concs_cons.1 hl
    obtain ⟨z, z1, z2⟩ := hf _ _ _ _ _ h1 hx h3
    obtain ⟨z', z3, z4⟩ := foldA_ok hf h2 z1 h4
    exact ⟨z', z3, fun w => by simp only [List.foldlM_cons, Sem.run_bind, z2, Result.andThen_ok, z4]⟩

theorem lenA_ok {t ty : TypeId} {x r : AV} {u : Value} {as : Array TypeId} {vs : Array Value} (h : lenA P t x = some r) (ha : conc σ η x = some u) (h1 : as[0]? = some t) (h2 : vs[0]? = some u) : ∃ z, conc σ η r = some z ∧ ∀ w, (Builtin.len_ as ty vs).run P w = .ok z w := by
  unfold lenA at h
  split at h <;> simp only [Option.some.injEq, reduceCtorEq] at h <;> (try subst h) <;> rename_i hu
  · obtain ⟨_, rfl⟩ := conc_str.1 ha
    exact ⟨_, conc_int.2 rfl, fun w => by simp [Builtin.len_, h1, h2, run_underlying hu, goInt, bs_size]⟩
  · exact ⟨_, conc_int.2 rfl, fun w => by simp only [Builtin.len_, h1, h2, Sem.run_bind, run_underlying hu, Result.andThen_ok, goInt, Sem.run_pure]; rfl⟩
  · obtain ⟨l, _, rfl⟩ := conc_slice.1 ha
    exact ⟨_, conc_int.2 rfl, fun w => by simp [Builtin.len_, h1, h2, run_underlying hu, goInt]⟩
  · rw [conc_nils] at ha; subst ha
    exact ⟨_, conc_int.2 rfl, fun w => by simp [Builtin.len_, h1, h2, run_underlying hu, goInt]⟩
  · rw [conc_nilm] at ha; subst ha
    exact ⟨_, conc_int.2 rfl, fun w => by simp [Builtin.len_, h1, h2, run_underlying hu, goInt]⟩
theorem capA_ok {t ty : TypeId} {x r : AV} {u : Value} {as : Array TypeId} {vs : Array Value} (h : capA P t x = some r) (ha : conc σ η x = some u) (h1 : as[0]? = some t) (h2 : vs[0]? = some u) : ∃ z, conc σ η r = some z ∧ ∀ w, (Builtin.cap_ as ty vs).run P w = .ok z w := by
  unfold capA at h
  split at h <;> simp only [Option.some.injEq, reduceCtorEq] at h <;> (try subst h) <;> rename_i hu
  · obtain ⟨l, _, rfl⟩ := conc_slice.1 ha
    exact ⟨_, conc_int.2 rfl, fun w => by simp [Builtin.cap_, h1, h2, run_underlying hu, goInt]⟩
  · rw [conc_nils] at ha; subst ha
    exact ⟨_, conc_int.2 rfl, fun w => by simp [Builtin.cap_, h1, h2, run_underlying hu, goInt]⟩

theorem aAssert_ok {t xt : TypeId} {x r : AV} {ok : Bool} {u : Value} (h : aAssert P x t ok = some r) (ha : conc σ η x = some u) : ∃ z, conc σ η r = some z ∧ ∀ w, (Instr.typeAssert u xt t ok).run P w = .ok z w := by
  unfold aAssert at h
  split at h
  · cases h
  · rename_i d q v hni hu
    obtain ⟨cv, h1, rfl⟩ := conc_iface.1 ha
    cases e : Nat.beq q t with
    | false => simp [e] at h
    | true =>
      have := Nat.eq_of_beq_eq_true e
      subst this
      simp only [e, cond_true, Option.some.injEq] at h
      subst h
      refine ⟨if ok then .tuple #[cv, .bool true] else cv, ?_, fun w => ?_⟩
      · cases ok
        · simpa using h1
        · exact conc_tup.2 ⟨_, concs_cons.2 ⟨_, _, h1, concs_cons.2 ⟨_, _, conc_bool.2 rfl, rfl, rfl⟩, rfl⟩, rfl⟩
      · simp only [Instr.typeAssert, Sem.run_bind, run_underlying hu, Result.andThen_ok]
        cases d <;> first | (exact absurd rfl (hni _)) | simp
  · cases h

theorem concs_map {ρ : Operand → AV} {e : Operand → Value} : ∀ {l : List Operand}, (∀ x ∈ l, conc σ η (ρ x) = some (e x)) → concs σ η (l.map ρ) = some (l.map e)
  | [], _ => rfl
  | x :: l, h => concs_cons.2 ⟨_, _, h x (by simp), concs_map fun y hy => h y (by simp [hy]), rfl⟩
theorem partsR_map {ρ : Operand → AV} {e : Operand → Value} : ∀ {l : List (Nat × Operand)}, (∀ x ∈ l, conc σ η (ρ x.2) = some (e x.2)) → PartsR σ η (l.map fun p => (p.1, ρ p.2)) (l.map fun p => (p.1, e p.2))
  | [], _ => trivial
  | x :: l, h => ⟨rfl, h x (by simp), partsR_map fun y hy => h y (by simp [hy])⟩
theorem optR_map {ρ : Operand → AV} {e : Operand → Value} {o : Option Operand} (h : ∀ x ∈ o.toArray, conc σ η (ρ x) = some (e x)) : OptR σ η (o.map ρ) (o.map e) := by
  cases o with
  | none => trivial
  | some x => exact h x (by simp)

theorem sliceData_nil (as : Array TypeId) (ty : TypeId) : Builtin.unsafeSliceData_ as ty #[.slice none 0 0] = pure (.pointer none) := rfl
theorem sliceData_some (as : Array TypeId) (ty : TypeId) (a : Addr) (l c : Nat) (h : c ≠ 0) (w : World) : (Builtin.unsafeSliceData_ as ty #[.slice (some a) l c]).run P w = .ok (.pointer (some a)) w := by
  show (if c ≠ 0 then pure (.pointer (some a)) else _ : Sem Value).run P w = _
  rw [if_pos h]; rfl
theorem aPure_ok {ρ : Operand → AV} {e : Operand → Value} {o : Oper} {r : AV} (h : aPure P ρ o.op = some r) (hr : ∀ x ∈ o.op.operands, conc σ η (ρ x) = some (e x)) :
    ∃ u, conc σ η r = some u ∧ ∀ w, (execOp e o).run P w = .ok (.value u) w := by
  have val : ∀ {s : Sem Value} {u : Value}, (∀ w, s.run P w = .ok u w) → ∀ w, (do pure (.value (← s)) : Sem Next).run P w = .ok (.value u) w := by
    intro s u hs w
    rw [Sem.run_bind, hs w]; rfl
  unfold aPure at h
  unfold execOp
  split at h
  · rename_i x hop
    rw [hop] at hr ⊢
    cases h
    exact ⟨_, hr x (by simp [Op.operands]), fun w => rfl⟩
  · rename_i x hop
    rw [hop] at hr ⊢
    cases h
    exact ⟨_, hr x (by simp [Op.operands]), fun w => rfl⟩
  · rename_i c a b hop
    rw [hop] at hr ⊢
    have hc := hr c (by simp [Op.operands])
    split at h
    · rename_i ec; cases h
      rw [ec, conc_bool] at hc
      exact ⟨_, hr a (by simp [Op.operands]), fun w => by simp [hc, asBool]⟩
    · rename_i ec; cases h
      rw [ec, conc_bool] at hc
      exact ⟨_, hr b (by simp [Op.operands]), fun w => by simp [hc, asBool]⟩
    · cases h
  · rename_i t parts hop
    rw [hop] at hr ⊢
    obtain ⟨u, h1, h2⟩ := aBuild_ok (ps := parts.map fun p => (p.1, e p.2)) h (by
      rw [Array.toList_map]
      exact partsR_map fun x hx => hr x.2 (by simp [Op.operands]; exact ⟨x.1, by simpa using hx⟩))
    exact ⟨u, h1, val h2⟩
  · rename_i x hop
    rw [hop] at hr ⊢
    have hx := hr x (by simp [Op.operands])
    split at h
    · rename_i n o2 ex; cases h; rw [ex] at hx; obtain ⟨l, _, hl⟩ := conc_ptr.1 hx; exact ⟨_, hx, fun w => by simp [hl]⟩
    · rename_i f a b ex; cases h; rw [ex] at hx; obtain ⟨_, _, _, _, hl⟩ := conc_func.1 hx; exact ⟨_, hx, fun w => by simp [hl]⟩
    · rename_i t v ex; cases h; rw [ex] at hx; obtain ⟨_, _, hl⟩ := conc_iface.1 hx; exact ⟨_, hx, fun w => by simp [hl]⟩
    · rename_i n ex; cases h; rw [ex] at hx; obtain ⟨_, _, hl⟩ := conc_yld.1 hx; exact ⟨_, hx, fun w => by simp [hl]⟩
    · cases h
  · rename_i op t x y yt hop
    rw [hop] at hr ⊢
    obtain ⟨z, z1, z2⟩ := aBin_ok h (hr x (by simp [Op.operands])) (hr y (by simp [Op.operands]))
    exact ⟨z, z1, val z2⟩
  · rename_i op t x hop
    rw [hop] at hr ⊢
    obtain ⟨z, z1, z2⟩ := aUn_ok (P := P) h (hr x (by simp [Op.operands]))
    exact ⟨z, z1, val z2⟩
  · rename_i s d x hop
    rw [hop] at hr ⊢
    obtain ⟨z, z1, z2⟩ := aConv_ok h (hr x (by simp [Op.operands]))
    exact ⟨z, z1, val z2⟩
  · rename_i t x hop
    rw [hop] at hr ⊢
    split at h
    · cases h
    · rename_i d hu hd
      cases h
      refine ⟨_, conc_iface.2 ⟨_, hr x (by simp [Op.operands]), rfl⟩, val fun w => ?_⟩
      simp only [Instr.makeInterface, Sem.run_bind, run_underlying hd, Result.andThen_ok]
      cases d <;> first | (exact absurd rfl (hu _)) | rfl
    · cases h
  · rename_i f first capt hop
    rw [hop] at hr ⊢
    cases h
    exact ⟨_, conc_func.2 ⟨_, _, concs_map fun x hx => hr x (by simp [Op.operands]; exact .inl (by simpa using hx)), concs_map fun x hx => hr x (by simp [Op.operands]; exact .inr (by simpa using hx)), rfl⟩, fun w => by simp [Instr.makeFunc]; exact ⟨Array.toList_inj.1 (by simp), Array.toList_inj.1 (by simp)⟩⟩
  · rename_i t x lo hi mx hop
    rw [hop] at hr ⊢
    obtain ⟨z, z1, z2⟩ := aSlice_ok h (hr x (by simp [Op.operands])) (optR_map fun y hy => hr y (by simp [Op.operands] at hy ⊢; simp [hy])) (optR_map fun y hy => hr y (by simp [Op.operands] at hy ⊢; simp [hy])) (optR_map fun y hy => hr y (by simp [Op.operands] at hy ⊢; simp [hy]))
    exact ⟨z, z1, val z2⟩
  · rename_i t x f hop
    rw [hop] at hr ⊢
    obtain ⟨z, z1, z2⟩ := aFieldAddr_ok h (hr x (by simp [Op.operands]))
    exact ⟨z, z1, val z2⟩
  · rename_i t x f hop
    rw [hop] at hr ⊢
    obtain ⟨z, z1, z2⟩ := aField_ok h (hr x (by simp [Op.operands]))
    exact ⟨z, z1, val z2⟩
  · rename_i t x i hop
    rw [hop] at hr ⊢
    obtain ⟨z, z1, z2⟩ := aIndexAddr_ok h (hr x (by simp [Op.operands])) (hr i (by simp [Op.operands]))
    exact ⟨z, z1, val z2⟩
  · rename_i t x i hop
    rw [hop] at hr ⊢
    obtain ⟨z, z1, z2⟩ := aIndex_ok h (hr x (by simp [Op.operands])) (hr i (by simp [Op.operands]))
    exact ⟨z, z1, val z2⟩
  · rename_i x xt t ok hop
    rw [hop] at hr ⊢
    obtain ⟨z, z1, z2⟩ := aAssert_ok h (hr x (by simp [Op.operands]))
    exact ⟨z, z1, val z2⟩
  · rename_i t i hop
    rw [hop] at hr ⊢
    have hx := hr t (by simp [Op.operands])
    split at h
    · rename_i l ex
      rw [ex] at hx
      obtain ⟨vs, h1, h2⟩ := conc_tup.1 hx
      rw [nth_eq] at h
      obtain ⟨v, h3, h4⟩ := (concs_get h1 i).2 r h
      exact ⟨v, h4, val fun w => by rw [h2]; simp [Instr.extract, h3]⟩
    · cases h
  · rename_i c hop
    rw [hop] at hr ⊢
    obtain ⟨callee, args, argTypes⟩ := c
    have args' : ∀ x ∈ args, conc σ η (ρ x) = some (e x) := fun x hx => hr x (by simp [Op.operands, Call.operands, hx])
    have at' : ∀ i x, args[i]? = some x → conc σ η (ρ x) = some (e x) ∧ (args.map e)[i]? = some (e x) := fun i x hx => ⟨args' x (Array.mem_of_getElem? hx), by simp [hx]⟩
    have all : ∀ {l : List AV}, args.toList.map ρ = l → concs σ η l = some (args.map e).toList := by
      rintro l rfl
      rw [Array.toList_map]
      exact concs_map fun x hx => args' x (by simpa using hx)
    split at h
    · rename_i hc
      simp only at hc
      subst hc
      split at h
      · rename_i t x e1 e2
        obtain ⟨z, z1, z2⟩ := lenA_ok (ty := o.type) h (at' 0 x e2).1 e1 (at' 0 x e2).2
        exact ⟨z, z1, fun w => by simp [resolve, invoke, builtin, z2]⟩
      · cases h
    · rename_i hc
      simp only at hc
      subst hc
      split at h
      · rename_i t x e1 e2
        obtain ⟨z, z1, z2⟩ := capA_ok (ty := o.type) h (at' 0 x e2).1 e1 (at' 0 x e2).2
        exact ⟨z, z1, fun w => by simp [resolve, invoke, builtin, z2]⟩
      · cases h
    · rename_i hc
      simp only at hc
      subst hc
      split at h
      · rename_i x l ex
        obtain ⟨v, vs, h1, h2, h3⟩ := concs_cons.1 (all ex)
        obtain ⟨z, z1, z2⟩ := foldA_ok (P := P) (fun a b r u v => min2_ok) h h1 h2
        exact ⟨z, z1, fun w => by simp only [resolve, invoke, builtin, Sem.run_bind, Sem.run_pure, Result.andThen_ok, Builtin.min_, h3, z2]⟩
      · cases h
    · rename_i hc
      simp only at hc
      subst hc
      split at h
      · rename_i x l ex
        obtain ⟨v, vs, h1, h2, h3⟩ := concs_cons.1 (all ex)
        obtain ⟨z, z1, z2⟩ := foldA_ok (P := P) (fun a b r u v => max2_ok) h h1 h2
        exact ⟨z, z1, fun w => by simp only [resolve, invoke, builtin, Sem.run_bind, Sem.run_pure, Result.andThen_ok, Builtin.max_, h3, z2]⟩
      · cases h
    · rename_i hc
      simp only at hc
      subst hc
      split at h
      · rename_i ex
        obtain ⟨v, vs, h1, h2, h3⟩ := concs_cons.1 (all ex)
        rw [conc_nils] at h1; subst h1
        simp [concs] at h2; subst h2
        cases h
        have ha : args.map e = #[.slice none 0 0] := Array.toList_inj.1 h3
        exact ⟨_, conc_nilp.2 rfl, fun w => by simp only [resolve, invoke, builtin, Sem.run_bind, Sem.run_pure, Result.andThen_ok, ha, sliceData_nil]⟩
      · rename_i n o2 len cap fl ex
        obtain ⟨v, vs, h1, h2, h3⟩ := concs_cons.1 (all ex)
        obtain ⟨lc, hl, rfl⟩ := conc_slice.1 h1
        simp [concs] at h2; subst h2
        cases h
        have ha : args.map e = #[.slice (some ⟨lc.blk, lc.off + o2, none⟩) len (cap + 1 + (if fl then lc.slack else 0))] := Array.toList_inj.1 h3
        refine ⟨_, conc_ptr.2 ⟨lc, hl, rfl⟩, fun w => ?_⟩
        have : cap + 1 + (if fl = true then lc.slack else 0) ≠ 0 := by omega
        simp only [resolve, invoke, builtin, Sem.run_bind, Sem.run_pure, Result.andThen_ok, ha, sliceData_some _ _ _ _ _ this]
      · cases h
    · cases h
  · cases h
end Go.Eng

/- An evaluator of closed runs: its heap stands for the world; operations that read it. -/
namespace Go.Eng
variable {σ σ' : Sig} {η : Env} {P : Program}

def EsR (σ : Sig) (η : Env) : List (AV × AV × Nat) → List MapEntry → Prop
  | [], [] => True
  | (k, v, b) :: es, e :: ms => conc σ η k = some e.key ∧ conc σ η v = some e.val ∧ e.born = b ∧ EsR σ η es ms
  | _, _ => False
theorem EsR.ext (hx : Ext σ σ') : ∀ {es : List (AV × AV × Nat)} {ms : List MapEntry}, EsR σ η es ms → EsR σ' η es ms
  | [], [], _ => trivial
  | (_, _, _) :: _, _ :: _, ⟨h1, h2, h3, h4⟩ => ⟨conc_ext hx h1, conc_ext hx h2, h3, h4.ext hx⟩
  | [], _ :: _, h => h.elim
  | _ :: _, [], h => by obtain ⟨_, _, _⟩ := ‹AV × AV × Nat›; exact h.elim
theorem EsR.length : ∀ {es : List (AV × AV × Nat)} {ms : List MapEntry}, EsR σ η es ms → ms.length = es.length
  | [], [], _ => rfl
  | (_, _, _) :: _, _ :: _, ⟨_, _, _, h4⟩ => by simp [h4.length]
  | [], _ :: _, h => h.elim
  | _ :: _, [], h => by obtain ⟨_, _, _⟩ := ‹AV × AV × Nat›; exact h.elim

/-- What a name stands for lies in the world. -/
def isU8 (P : Program) (t : TypeId) : Bool := match P.underlying t with | some (.int .u8) => true | _ => false
/-- So far a block's cells are no string's: one further, but for bytes. -/
def lim (P : Program) (t : TypeId) (n : Nat) : Nat := if isU8 P t then n else n + 1
theorem lim_le {P : Program} {t : TypeId} {n : Nat} : n ≤ lim P t n := by unfold lim; split <;> omega
theorem lim_u8 {P : Program} {t : TypeId} {n : Nat} (h : P.underlying t = some (.int .u8)) : lim P t n = n := by unfold lim isU8; rw [h]; rfl

def lState : Nat → LoopState
  | 0 => .ready
  | 1 => .busy
  | 2 => .done
  | _ => .exhausted
def ObjR (P : Program) (σ : Sig) (η : Env) (w : World) (l : Loc) : AObj → Prop
  | .cells t cs => ∃ (c : Array Value) (fr : Nat × Nat) (vs : List Value), w.heap[l.blk]? = some (.cells c t fr) ∧ (∀ i, i < lim P t c.size → ¬ (fr.1 ≤ i ∧ i < fr.2)) ∧ concs σ η cs = some vs ∧ allOne vs = true ∧
      (∀ i v, vs[i]? = some v → c[l.off + i]? = some v) ∧ (l.off + vs.length + l.slack * P.cellsOf t ≤ c.size ∧ l.off % P.cellsOf t = 0)
  | .map es cl => ∃ ms, w.heap[l.blk]? = some (.map ms cl) ∧ EsR σ η es ms.toList
  | .loop st pend tm nt ps a b dn => ∃ r : Loop, w.heap[l.blk]? = some (.loop r) ∧ r.state = lState st ∧ r.pending = pend ∧ (r.tmps.size = nt ∧ ∀ t, conc σ η (evO tm (.tmp t)) = some (r.tmps.getD t undef)) ∧ nt ≤ bigN ∧ r.params.toList = ps ∧ r.assign = a ∧ r.body = b ∧ ∃ d, σ dn = some d ∧ d.blk = r.defers
  | .dfr => w.heap[l.blk]? = some (.deferred (some []))
  | .frz t cs => ∃ (c : Array Value) (fr : Nat × Nat) (vs : List Value), w.heap[l.blk]? = some (.cells c t fr) ∧ concs σ η cs = some vs ∧ (∀ i v, vs[i]? = some v → c[l.off + i]? = some v) ∧ allOne vs = true
  | .ro _ cs => ∃ (c : Array Value) (fr : Nat × Nat) (vs : List Value) (t : TypeId), w.heap[l.blk]? = some (.cells c t fr) ∧ concs σ η cs = some vs ∧ (∀ i v, vs[i]? = some v → c[l.off + i]? = some v) ∧ allOne vs = true ∧ η.blk l.blk = some (.cells c t fr)
theorem ObjR.ext (hx : Ext σ σ') {w : World} {l : Loc} : ∀ {o : AObj}, ObjR P σ η w l o → ObjR P σ' η w l o
  | .cells _ _, ⟨c, fr, vs, h1, h2, h3, h4⟩ => ⟨c, fr, vs, h1, h2, concs_ext hx h3, h4⟩
  | .map _ _, ⟨ms, h1, h2⟩ => ⟨ms, h1, h2.ext hx⟩
  | .loop .., ⟨r, h1, h2, h3, ⟨h4, h5⟩, h6, h7, h8, h9, d, h10, h11⟩ => ⟨r, h1, h2, h3, ⟨h4, fun t => conc_ext hx (h5 t)⟩, h6, h7, h8, h9, d, hx _ _ h10, h11⟩
  | .dfr, h => h
  | .frz _ _, ⟨c, fr, vs, h1, h2, h3⟩ => ⟨c, fr, vs, h1, concs_ext hx h2, h3⟩
  | .ro _ _, ⟨c, fr, vs, t, h1, h2, h3⟩ => ⟨c, fr, vs, t, h1, concs_ext hx h2, h3⟩
theorem ObjR.block {w w' : World} {l : Loc} (hb : w'.heap[l.blk]? = w.heap[l.blk]?) : ∀ {o : AObj}, ObjR P σ η w l o → ObjR P σ η w' l o
  | .cells _ _, ⟨c, fr, vs, h1, h2⟩ => ⟨c, fr, vs, hb.trans h1, h2⟩
  | .map _ _, ⟨ms, h1, h2⟩ => ⟨ms, hb.trans h1, h2⟩
  | .loop .., ⟨r, h1, h2⟩ => ⟨r, hb.trans h1, h2⟩
  | .dfr, h => hb.trans h
  | .frz _ _, ⟨c, fr, vs, h1, h2⟩ => ⟨c, fr, vs, hb.trans h1, h2⟩
  | .ro _ _, ⟨c, fr, vs, t, h1, h2⟩ => ⟨c, fr, vs, t, hb.trans h1, h2⟩
theorem lt_of_heap {w : World} {b : Nat} {o : Obj} (h1 : w.heap[b]? = some o) : b < w.heap.size := by
  rcases Nat.lt_or_ge b w.heap.size with h | h
  · exact h
  · rw [Array.getElem?_eq_none h] at h1; cases h1
theorem ObjR.lt {w : World} {l : Loc} : ∀ {o : AObj}, ObjR P σ η w l o → l.blk < w.heap.size
  | .cells _ _, ⟨_, _, _, h1, _⟩ => lt_of_heap h1
  | .map _ _, ⟨_, h1, _⟩ => lt_of_heap h1
  | .loop .., ⟨_, h1, _⟩ => lt_of_heap h1
  | .dfr, h1 => lt_of_heap h1
  | .frz _ _, ⟨_, _, _, h1, _⟩ => lt_of_heap h1
  | .ro _ _, ⟨_, _, _, _, h1, _⟩ => lt_of_heap h1

structure HR (P : Program) (σ : Sig) (η : Env) (h : Heap) (c : Nat) (w : World) : Prop where
  obj : ∀ n o, h.get n = some o → ∃ l, σ n = some l ∧ ObjR P σ η w l o
  inj : ∀ n m l k, (h.get n).isSome = true → (h.get m).isSome = true → σ n = some l → σ m = some k → l.blk = k.blk → n = m
  new : ∀ n, c ≤ n → σ n = none
  glob : ∀ g, g < P.globals.size → ∃ s, σ g = some ⟨g, 0, s⟩

theorem cells?_iff {h : Heap} {n t : Nat} {cs : List AV} : cells? h n = some (t, cs) ↔ h.get n = some (.cells t cs) := by
  unfold cells?
  split
  · rename_i e; rw [e]; simp
  · rename_i e; constructor
    · intro k; cases k
    · intro k; exact absurd k (e t cs)

/-- The cells of a name, one by one. -/
theorem HR.cells {h : Heap} {c n t : Nat} {cs : List AV} {w : World} (H : HR P σ η h c w) (hn : cells? h n = some (t, cs)) {l : Loc} (hl : σ n = some l) :
    ∃ vs, concs σ η cs = some vs ∧ allOne vs = true ∧ (∀ i v, vs[i]? = some v → w.cell? ⟨l.blk, l.off + i, none⟩ = some v) ∧ (∀ i, w.frozen? ⟨l.blk, l.off + i, none⟩ = true → vs.length ≤ i) := by
  obtain ⟨l', hl', ob⟩ := H.obj n _ (cells?_iff.1 hn)
  rw [hl] at hl'
  cases hl'
  obtain ⟨C, fr, vs, h1, h2, h3, h4, h5, h6, _⟩ := ob
  refine ⟨vs, h3, h4, fun i v hv => ?_, fun i hi => ?_⟩
  · simp only [World.cell?, h1]
    simpa using h5 i v hv
  · simp only [World.frozen?, h1] at hi
    rcases Nat.lt_or_ge i vs.length with hlt | hge
    · exact absurd (by simpa using hi) (h2 (l.off + i) (Nat.lt_of_lt_of_le (by omega) lim_le))
    · exact hge

/-- A row of cells is loaded. -/
theorem HR.row {h : Heap} {c n t o k : Nat} {cs r : List AV} {w : World} (H : HR P σ η h c w) (hn : cells? h n = some (t, cs)) {l : Loc} (hl : σ n = some l) (hr : row? cs o k = some r) :
    ∃ vs, concs σ η r = some vs ∧ allOne vs = true ∧ vs.length = k ∧ (∀ i v, vs[i]? = some v → w.cell? ⟨l.blk, l.off + o + i, none⟩ = some v) ∧ (loadCells ⟨l.blk, l.off + o, none⟩ k).run P w = .ok vs.toArray w := by
  obtain ⟨vs, h1, h2, h3, _⟩ := H.cells hn hl
  obtain ⟨k1, k2, k3⟩ := concs_row h1 hr
  have hlen : ((vs.drop o).take k).length = k := by rw [concs_length k1]; exact k2
  have hcell : ∀ i v, ((vs.drop o).take k)[i]? = some v → w.cell? ⟨l.blk, l.off + o + i, none⟩ = some v := by
    intro i v hv
    rw [List.getElem?_take] at hv
    split at hv
    · rw [List.getElem?_drop] at hv
      have := h3 _ _ hv
      rwa [← Nat.add_assoc] at this
    · cases hv
  refine ⟨_, k1, allOne_iff.2 fun v hv => allOne_iff.1 h2 v (List.mem_of_mem_drop (List.mem_of_mem_take hv)), hlen, hcell, ?_⟩
  have := run_loadCells_list (P := P) w ⟨l.blk, l.off + o, none⟩ ((vs.drop o).take k) (fun j v hj => by rw [add_plain]; exact hcell j v hj)
  rwa [hlen] at this

/-- Cells that may be read. -/
theorem HR.rd {h : Heap} {c n t : Nat} {cs : List AV} {w : World} (H : HR P σ η h c w) (hn : rd? h n = some (t, cs)) {l : Loc} (hl : σ n = some l) :
    ∃ vs, concs σ η cs = some vs ∧ allOne vs = true ∧ (∀ i v, vs[i]? = some v → w.cell? ⟨l.blk, l.off + i, none⟩ = some v) := by
  have main : ∀ (C : Array Value) (t : TypeId) (fr : Nat × Nat) (vs : List Value), w.heap[l.blk]? = some (.cells C t fr) → concs σ η cs = some vs → allOne vs = true → (∀ i v, vs[i]? = some v → C[l.off + i]? = some v) → ∃ vs, concs σ η cs = some vs ∧ allOne vs = true ∧ (∀ i v, vs[i]? = some v → w.cell? ⟨l.blk, l.off + i, none⟩ = some v) := by
    intro C t fr vs h1 h2 h3 h4
    refine ⟨vs, h2, h3, fun i v hv => ?_⟩
    simp only [World.cell?, h1]
    simpa using h4 i v hv
  unfold rd? at hn
  split at hn
  · rename_i z cs' e
    cases hn
    obtain ⟨l', hl', C, fr, vs, h1, _, h3, h4, h5, _⟩ := H.obj n _ e
    rw [hl] at hl'; cases hl'
    exact main C _ fr vs h1 h3 h4 h5
  · rename_i z cs' e
    cases hn
    obtain ⟨l', hl', C, fr, vs, h1, h3, h5, h4⟩ := H.obj n _ e
    rw [hl] at hl'; cases hl'
    exact main C _ fr vs h1 h3 h4 h5
  · rename_i z cs' e
    cases hn
    obtain ⟨l', hl', C, fr, vs, _, h1, h3, h5, h4, _⟩ := H.obj n _ e
    rw [hl] at hl'; cases hl'
    exact main C _ fr vs h1 h3 h4 h5
  · cases hn

theorem HR.rrow {h : Heap} {c n t o k : Nat} {cs r : List AV} {w : World} (H : HR P σ η h c w) (hn : rd? h n = some (t, cs)) {l : Loc} (hl : σ n = some l) (hr : row? cs o k = some r) :
    ∃ vs, concs σ η r = some vs ∧ allOne vs = true ∧ (loadCells ⟨l.blk, l.off + o, none⟩ k).run P w = .ok vs.toArray w := by
  obtain ⟨vs, h1, h2, h3⟩ := H.rd hn hl
  obtain ⟨k1, k2, k3⟩ := concs_row h1 hr
  have hlen : ((vs.drop o).take k).length = k := by rw [concs_length k1]; exact k2
  have hcell : ∀ i v, ((vs.drop o).take k)[i]? = some v → w.cell? ⟨l.blk, l.off + o + i, none⟩ = some v := by
    intro i v hv
    rw [List.getElem?_take] at hv
    split at hv
    · rw [List.getElem?_drop] at hv
      have := h3 _ _ hv
      rwa [← Nat.add_assoc] at this
    · cases hv
  refine ⟨_, k1, allOne_iff.2 fun v hv => allOne_iff.1 h2 v (List.mem_of_mem_drop (List.mem_of_mem_take hv)), ?_⟩
  have := run_loadCells_list (P := P) w ⟨l.blk, l.off + o, none⟩ ((vs.drop o).take k) (fun j v hj => by rw [add_plain]; exact hcell j v hj)
  rwa [hlen] at this

theorem load_ok {h : Heap} {c n t e o : Nat} {cs : List AV} {r : AV} {w : World} (H : HR P σ η h c w) (hn : rd? h n = some (e, cs)) {l : Loc} (hl : σ n = some l) (hp : aPart P t cs o = some r) :
    ∃ u, conc σ η r = some u ∧ (loadVar t ⟨l.blk, l.off + o, none⟩).run P w = .ok u w := by
  unfold aPart at hp
  split at hp
  · rename_i k ea es
    simp only [Option.map_eq_some_iff] at hp
    obtain ⟨a, ha, rfl⟩ := hp
    obtain ⟨vs, h1, h2, h4⟩ := H.rrow hn hl ha
    exact ⟨_, conc_agg.2 ⟨vs, h1, h2, rfl⟩, by simp only [loadVar, Sem.run_bind, run_agg? ea, Result.andThen_ok, if_true, run_sizeOf? es, h4, Sem.run_pure]⟩
  · rename_i ea
    rw [nth_eq] at hp
    obtain ⟨vs, h1, h2, h3⟩ := H.rd hn hl
    obtain ⟨v, h4, h5⟩ := (concs_get h1 o).2 r hp
    exact ⟨v, h5, by simp only [loadVar, Sem.run_bind, run_agg? ea, Result.andThen_ok, Bool.false_eq_true, if_false, run_load, h3 o v h4]⟩
  · cases hp

theorem bytesOf?_ok : ∀ {r : List AV} {s : List Nat} {vs : List Value}, bytesOf? r = some s → concs σ η r = some vs → vs = s.map (fun n => Value.int .u8 (Int.ofNat n)) ∧ allB s = true
  | [], s, vs, h, hc => by simp [bytesOf?] at h; subst h; simp [concs] at hc; subst hc; exact ⟨rfl, rfl⟩
  | x :: r, s, vs, h, hc => by
    unfold bytesOf? at h
    split at h
    · rename_i e; cases e
    · rename_i n l e
      cases e
      obtain ⟨v, us, h1, h2, rfl⟩ := concs_cons.1 hc
      cases eb : Nat.ble n 255 with
      | false => simp [eb] at h
      | true =>
        have := Nat.le_of_ble_eq_true eb
        simp only [eb, cond_true, Option.map_eq_some_iff] at h
        obtain ⟨a, h3, rfl⟩ := h
        obtain ⟨rfl, h5⟩ := bytesOf?_ok h3 h2
        rw [conc_int] at h1
        subst h1
        exact ⟨rfl, allB_cons.2 ⟨by omega, h5⟩⟩
    · cases h

theorem strOfNums_bs (s : List Nat) : strOfNums (s.map fun n => Int.ofNat n) = bs s := by
  simp [strOfNums, bs, Nat.toUInt8]

theorem keyOk_ok {t : TypeId} {k : AV} {kv : Value} (h : keyOk P t k = true) (hk : conc σ η k = some kv) : (∀ b n w, (Instr.checkKey b (n + 1) t kv).run P w = .ok () w) ∧ ∃ d, P.underlying t = some d ∧
    ∀ (es : List (AV × AV × Nat)) (ms : List MapEntry) (i : Nat) (r : Option (Nat × AV × Nat)), findE k es i = some r → EsR σ η es ms →
      (r = none ∧ Instr.findNow d kv ms i = some none) ∨ ∃ j v b vv, r = some (i + j, v, b) ∧ conc σ η v = some vv ∧ Instr.findNow d kv ms i = some (some (i + j, vv)) ∧ ∃ k' kv' e, es[j]? = some (k', v, b) ∧ ms[j]? = some e ∧ e.key = kv' ∧ e.val = vv ∧ e.born = b ∧ e.key = kv ∧ conc σ η k' = some kv := by
  unfold keyOk at h
  split at h
  · rename_i q j x hu
    rw [conc_int] at hk
    subst hk
    refine ⟨fun b n w => by simp [Instr.checkKey, run_underlying hu], _, hu, ?_⟩
    intro es
    induction es with
    | nil =>
      intro ms i r hf hr
      cases ms with
      | nil => simp [findE] at hf; subst hf; exact .inl ⟨rfl, rfl⟩
      | cons _ _ => exact hr.elim
    | cons e es ih =>
      obtain ⟨k', v, b⟩ := e
      intro ms i r hf hr
      cases ms with
      | nil => exact hr.elim
      | cons m ms =>
        obtain ⟨h1, h2, h3, h4⟩ := hr
        simp only [findE] at hf
        cases k' with
        | int j' y =>
          rw [conc_int] at h1
          simp only at hf
          cases ej : Nat.beq (ikN j) (ikN j') with
          | false => simp [ej] at hf
          | true =>
            simp only [ej, cond_true] at hf
            rw [ikN_inj] at ej
            subst ej
            cases ee : iEq x y with
            | true =>
              simp only [ee, cond_true, Option.some.injEq] at hf
              subst hf
              have : x = y := by rw [iEq_iff] at ee; simpa using ee
              subst this
              exact .inr ⟨0, v, b, m.val, rfl, h2, by simp [Instr.findNow, h1, Instr.sameNow], _, _, m, rfl, rfl, rfl, rfl, h3, h1, by rw [conc_int]⟩
            | false =>
              simp only [ee, cond_false] at hf
              have hne : (x == y) = false := by rw [← iEq_iff]; exact ee
              have hstep : Instr.findNow (.int q) (.int j x) (m :: ms) i = Instr.findNow (.int q) (.int j x) ms (i + 1) := by simp [Instr.findNow, h1, Instr.sameNow, hne]
              rcases ih ms (i + 1) r hf h4 with ⟨e1, e2⟩ | ⟨jj, v', b', vv, e1, e2, e3, k2, kv2, m2, e4, e5, e6⟩
              · exact .inl ⟨e1, by rw [hstep, e2]⟩
              · exact .inr ⟨jj + 1, v', b', vv, by rw [e1]; congr 2; omega, e2, by rw [hstep, e3]; congr 2; simp; omega, k2, kv2, m2, by simpa using e4, by simpa using e5, e6⟩
        | _ => simp at hf
  · rename_i x hu
    obtain ⟨hx, rfl⟩ := conc_str.1 hk
    refine ⟨fun b n w => by simp [Instr.checkKey, run_underlying hu], _, hu, ?_⟩
    intro es
    induction es with
    | nil =>
      intro ms i r hf hr
      cases ms with
      | nil => simp [findE] at hf; subst hf; exact .inl ⟨rfl, rfl⟩
      | cons _ _ => exact hr.elim
    | cons e es ih =>
      obtain ⟨k', v, b⟩ := e
      intro ms i r hf hr
      cases ms with
      | nil => exact hr.elim
      | cons m ms =>
        obtain ⟨h1, h2, h3, h4⟩ := hr
        simp only [findE] at hf
        cases k' with
        | str y =>
          obtain ⟨hy, h1⟩ := conc_str.1 h1
          simp only at hf
          have heq : nsEq x y = (bs x == bs y) := by rw [beq_toListBytes, bs_toList, bs_toList, nsEq_iff hx hy]
          cases ee : nsEq x y with
          | true =>
            simp only [ee, cond_true, Option.some.injEq] at hf
            subst hf
            have hb : (bs x == bs y) = true := by rw [← heq]; exact ee
            have hbs : bs x = bs y := by
              have := hb
              rw [beq_toListBytes, ByteArray.toList_eq, ByteArray.toList_eq] at this
              have h' : (bs x).data = (bs y).data := Array.toList_inj.1 (by simpa using this)
              cases hq : bs x; cases hq' : bs y; simp_all
            exact .inr ⟨0, v, b, m.val, rfl, h2, by simp [Instr.findNow, h1, Instr.sameNow, hb], _, _, m, rfl, rfl, rfl, rfl, h3, by rw [h1, hbs], conc_str.2 ⟨hy, by rw [hbs]⟩⟩
          | false =>
            simp only [ee, cond_false] at hf
            have hne : (bs x == bs y) = false := by rw [← heq]; exact ee
            have hstep : Instr.findNow .string (.string (bs x)) (m :: ms) i = Instr.findNow .string (.string (bs x)) ms (i + 1) := by simp only [Instr.findNow, h1, Instr.sameNow, hne]
            rcases ih ms (i + 1) r hf h4 with ⟨e1, e2⟩ | ⟨jj, v', b', vv, e1, e2, e3, k2, kv2, m2, e4, e5, e6⟩
            · exact .inl ⟨e1, by rw [hstep, e2]⟩
            · exact .inr ⟨jj + 1, v', b', vv, by rw [e1]; congr 2; omega, e2, by rw [hstep, e3]; congr 2; simp; omega, k2, kv2, m2, by simpa using e4, by simpa using e5, e6⟩
        | _ => simp at hf
  · cases h

theorem run_findKey {t : TypeId} {d : TypeDesc} {kv : Value} {ms : List MapEntry} {r : Option (Nat × Value)} (hu : P.underlying t = some d) (h : Instr.findNow d kv ms 0 = some r) (w : World) : (Instr.findKey t kv ms).run P w = .ok r w := by
  simp only [Instr.findKey, Sem.run_bind, run_underlying hu, Result.andThen_ok, h, Sem.run_pure]

theorem run_getMap {b : Nat} {ms : Array MapEntry} {cl : Nat} {w : World} (h : w.heap[b]? = some (.map ms cl)) : (getObj b).run P w = .ok (.map ms cl) w := by simp only [getObj, Sem.run, h]

theorem run_lookup {t kt et : TypeId} {mv kv z : Value} {ms : Array MapEntry} {d : TypeDesc} {vo : Option (Nat × Value)} {ok : Bool} {w : World} (hu : P.underlying t = some (.map kt et))
    (hm : (mv = .map none ∧ ms = #[]) ∨ ∃ b cl, mv = .map (some b) ∧ w.heap[b]? = some (.map ms cl)) (ck : ∀ b, (Instr.checkKey b 10000 kt kv).run P w = .ok () w) (hud : P.underlying kt = some d) (hf : Instr.findNow d kv ms.toList 0 = some vo)
    (hz : vo = none → (zeroValue et).run P w = .ok z w) : (Instr.lookup t mv kv ok).run P w = .ok (if ok then .tuple #[(vo.map (·.2)).getD z, .bool vo.isSome] else (vo.map (·.2)).getD z) w := by
  rcases hm with ⟨rfl, rfl⟩ | ⟨b, cl, rfl, hb⟩
  · unfold Instr.lookup
    simp only [Sem.run_bind, run_underlying hu, Result.andThen_ok, Sem.run_pure, ck, run_findKey hud hf]
    cases vo with
    | none => simp only [hz rfl, Sem.run_bind, Result.andThen_ok, Sem.run_pure]; cases ok <;> rfl
    | some x => obtain ⟨j, v⟩ := x; simp only [Sem.run_pure, Result.andThen_ok, Sem.run_bind]; cases ok <;> rfl
  · unfold Instr.lookup
    simp only [Sem.run_bind, run_underlying hu, Result.andThen_ok, run_getMap hb, Sem.run_pure, ck, run_findKey hud hf]
    cases vo with
    | none => simp only [hz rfl, Sem.run_bind, Result.andThen_ok, Sem.run_pure]; cases ok <;> rfl
    | some x => obtain ⟨j, v⟩ := x; simp only [Sem.run_pure, Result.andThen_ok, Sem.run_bind]; cases ok <;> rfl

theorem aRead_ok {ρ : Operand → AV} {e : Operand → Value} {o : Oper} {r : AV} {h : Heap} {c : Nat} {w : World} (hd : aRead P ρ h o.op = some r) (hr : ∀ x ∈ o.op.operands, conc σ η (ρ x) = some (e x)) (H : HR P σ η h c w) :
    ∃ u, conc σ η r = some u ∧ (execOp e o).run P w = .ok (.value u) w := by
  have val : ∀ {s : Sem Value} {u : Value}, s.run P w = .ok u w → (do pure (.value (← s)) : Sem Next).run P w = .ok (.value u) w := by
    intro s u hs
    rw [Sem.run_bind, hs]; rfl
  unfold aRead at hd
  unfold execOp
  split at hd
  · rename_i t x hop
    rw [hop] at hr ⊢
    have hx := hr x (by simp [Op.operands])
    split at hd
    · rename_i n o' ex
      rw [ex] at hx
      obtain ⟨l, hl, hv⟩ := conc_ptr.1 hx
      simp only [Option.bind_eq_some_iff] at hd
      obtain ⟨⟨t', cs⟩, hc, hp⟩ := hd
      obtain ⟨u, u1, u2⟩ := load_ok H hc hl hp
      exact ⟨u, u1, val (by simp only [hv, Instr.loadAt, Instr.sureAddr, Sem.run_bind, Sem.run_pure, Result.andThen_ok, u2])⟩
    · cases hd
  · rename_i s d x hop
    rw [hop] at hr ⊢
    have hx := hr x (by simp [Op.operands])
    split at hd
    · rename_i el hs hdd ex
      rw [ex, conc_nils] at hx
      split at hd
      · rename_i he
        cases hd
        refine ⟨_, conc_str.2 ⟨rfl, rfl⟩, val ?_⟩
        rw [hx, run_convert_bytes_nil w s el hs he 0 0 d hdd]
        rfl
      · cases hd
    · rename_i el n o' len cap fl hs hdd ex
      rw [ex] at hx
      obtain ⟨l, hl, hv⟩ := conc_slice.1 hx
      split at hd
      · rename_i he
        simp only [Option.bind_eq_some_iff, fNats_eq, Option.some.injEq] at hd
        obtain ⟨⟨t', cs⟩, hc, row, hrow, bsx, hb, rfl⟩ := hd
        obtain ⟨vs, h1, h2, h3, h4, h5⟩ := H.row hc hl hrow
        obtain ⟨rfl, k2⟩ := bytesOf?_ok hb h1
        have hlen : bsx.length = len := by simpa using h3
        refine ⟨_, conc_str.2 ⟨k2, rfl⟩, val ?_⟩
        rw [hv, run_convert_bytes_arg w s el hs he l.blk (l.off + o') len _ (bsx.map fun n => Int.ofNat n) (by simpa using hlen) (fun i hi => ?_) d hdd, strOfNums_bs]
        refine h4 i _ ?_
        rw [List.getElem?_map, List.getElem?_eq_getElem (by omega)]
        simp [List.getD, List.getElem?_eq_getElem (show i < bsx.length by omega)]
      · cases hd
    · cases hd
  · rename_i t x i ok hop
    rw [hop] at hr ⊢
    have hx := hr x (by simp [Op.operands])
    have hi := hr i (by simp [Op.operands])
    split at hd
    · rename_i kt et hu
      cases hk : keyOk P kt (ρ i) with
      | false => simp [hk] at hd
      | true =>
        simp only [hk, cond_true, Option.bind_eq_some_iff] at hd
        obtain ⟨es, he, rr, hf, hres⟩ := hd
        obtain ⟨ck, d, hud, fk⟩ := keyOk_ok hk hi
        obtain ⟨ms, hm, hes⟩ : ∃ ms : Array MapEntry, ((e x = .map none ∧ ms = #[]) ∨ ∃ b cl, e x = .map (some b) ∧ w.heap[b]? = some (.map ms cl)) ∧ EsR σ η es ms.toList := by
          split at he
          · rename_i ex
            cases he
            rw [ex, conc_nilm] at hx
            exact ⟨#[], .inl ⟨hx, rfl⟩, trivial⟩
          · rename_i n ex
            rw [ex] at hx
            obtain ⟨l, hl, hv⟩ := conc_map.1 hx
            split at he
            · rename_i es' cl hg
              cases he
              obtain ⟨l', hl', ob⟩ := H.obj n _ hg
              rw [hl] at hl'; cases hl'
              obtain ⟨ms, m1, m2⟩ := ob
              exact ⟨ms, .inr ⟨_, _, hv, m1⟩, m2⟩
            · cases he
          · cases he
        have ck' : ∀ b, (Instr.checkKey b 10000 kt (e i)).run P w = .ok () w := fun b => ck b 9999 w
        have res : ∀ {v : AV} {u : Value} {b : Bool}, conc σ η v = some u → conc σ η (bif ok then .tup [v, .bool b] else v) = some (if ok then .tuple #[u, .bool b] else u) := by
          intro v u b hc
          cases ok
          · exact hc
          · exact conc_tup.2 ⟨_, concs_cons.2 ⟨_, _, hc, concs_cons.2 ⟨_, _, conc_bool.2 rfl, rfl, rfl⟩, rfl⟩, rfl⟩
        rcases fk es ms.toList 0 rr hf hes with ⟨rfl, e2⟩ | ⟨j, v, b, vv, rfl, e2, e3, _⟩
        · simp only [Option.map_eq_some_iff] at hres
          obtain ⟨z, hz, rfl⟩ := hres
          obtain ⟨zv, z1, z2, z3⟩ := run_zero? hz
          exact ⟨_, res (z1 σ η), val (run_lookup hu hm ck' hud e2 (fun _ => z3 w))⟩
        · simp only [Option.some.injEq] at hres
          subst hres
          exact ⟨_, res e2, val (run_lookup (z := undef) hu hm ck' hud e3 (fun q => by cases q))⟩
    · cases hd
  · rename_i cl hop
    rw [hop] at hr ⊢
    obtain ⟨callee, args, argTypes⟩ := cl
    have args' : ∀ x ∈ args, conc σ η (ρ x) = some (e x) := fun x hx => hr x (by simp [Op.operands, Call.operands, hx])
    split at hd
    · rename_i hc
      simp only at hc
      subst hc
      split at hd
      · rename_i t x e1 e2
        split at hd
        · rename_i kt et n hu ex
          have hx := args' x (Array.mem_of_getElem? e2)
          rw [ex] at hx
          obtain ⟨l, hl, hv⟩ := conc_map.1 hx
          split at hd
          · rename_i es cl hg
            cases hd
            obtain ⟨l', hl', ob⟩ := H.obj n _ hg
            rw [hl] at hl'; cases hl'
            obtain ⟨ms, m1, m2⟩ := ob
            have hx0 : (args.map e)[0]? = some (.map (some l.blk)) := by simp [e2, hv]
            refine ⟨_, conc_int.2 rfl, ?_⟩
            have hl : (Builtin.len_ argTypes o.type (args.map e)).run P w = .ok (.int .i64 (Int.ofNat es.length)) w := by
              simp only [Builtin.len_, e1, hx0, Sem.run_bind, run_underlying hu, Result.andThen_ok, run_getMap m1, Sem.run_pure, goInt]
              have := m2.length
              simp at this
              rw [this]; rfl
            simp [resolve, invoke, builtin, hl]
          · cases hd
        · cases hd
      · cases hd
    · cases hd
  · cases hd
end Go.Eng

/- An evaluator of closed runs: how the heap turns. -/
namespace Go.Eng
variable {σ σ' : Sig} {η : Env} {P : Program}

/-- Of what was there only blocks in S may have turned; the streams are as they were. -/
structure Kept (S : Nat → Prop) (w w' : World) : Prop where
  os : w'.os = w.os
  tape : w'.tape = w.tape
  output : w'.output = w.output
  size : w.heap.size ≤ w'.heap.size
  block : ∀ k, k < w.heap.size → ¬ S k → w'.heap[k]? = w.heap[k]?

theorem Kept.refl (S : Nat → Prop) (w : World) : Kept S w w := ⟨rfl, rfl, rfl, Nat.le_refl _, fun _ _ _ => rfl⟩

/-- The blocks of the names that live. -/
def Liv (σ : Sig) (h : Heap) (b : Nat) : Prop := ∃ n l, (h.get n).isSome = true ∧ σ n = some l ∧ l.blk = b

structure Went (P : Program) (η : Env) (σ : Sig) (h : Heap) (c : Nat) (w : World) (σ' : Sig) (h' : Heap) (c' : Nat) (w' : World) : Prop where
  ext : Ext σ σ'
  rel : HR P σ' η h' c' w'
  kept : Kept (Liv σ h) w w'
  liv : ∀ b, b < w.heap.size → Liv σ' h' b → Liv σ h b
  off : ∀ n l, (h'.get n).isSome = true → σ' n = some l → l.off = 0 ∨ ∃ m k, (h.get m).isSome = true ∧ σ m = some k ∧ k.off = l.off

theorem Went.refl {h : Heap} {c : Nat} {w : World} (H : HR P σ η h c w) : Went P η σ h c w σ h c w := ⟨Ext.refl _, H, Kept.refl _ _, fun _ _ h => h, fun n l hn hl => .inr ⟨n, l, hn, hl, rfl⟩⟩
theorem Went.trans {a b d : Sig} {h h1 h2 : Heap} {c c1 c2 : Nat} {w w1 w2 : World} (x : Went P η a h c w b h1 c1 w1) (y : Went P η b h1 c1 w1 d h2 c2 w2) : Went P η a h c w d h2 c2 w2 :=
  ⟨x.ext.trans y.ext, y.rel, ⟨y.kept.os.trans x.kept.os, y.kept.tape.trans x.kept.tape, y.kept.output.trans x.kept.output, Nat.le_trans x.kept.size y.kept.size, fun k hk hS =>
    (y.kept.block k (Nat.lt_of_lt_of_le hk x.kept.size) (fun q => hS (x.liv k hk q))).trans (x.kept.block k hk hS)⟩,
    fun k hk q => x.liv k hk (y.liv k (Nat.lt_of_lt_of_le hk x.kept.size) q),
    fun n l hn hl => (y.off n l hn hl).elim .inl fun ⟨m, k, hm, hk, e⟩ => (x.off m k hm hk).imp (fun e0 => by rw [← e, e0]) fun ⟨j, i, a, b, e3⟩ => ⟨j, i, a, b, e3.trans e⟩⟩

/-- The heap alone counts. -/
theorem HR.heap {h : Heap} {c : Nat} {w w' : World} (H : HR P σ η h c w) (e : w'.heap = w.heap) : HR P σ η h c w' :=
  ⟨fun n o hn => let ⟨l, hl, ob⟩ := H.obj n o hn; ⟨l, hl, ob.block (by rw [e])⟩, H.inj, H.new, H.glob⟩
theorem Went.heap {h h' : Heap} {c c' : Nat} {w w1 w' : World} (x : Went P η σ h c w σ' h' c' w1) (e : w'.heap = w1.heap) (e1 : w'.os = w1.os) (e2 : w'.tape = w1.tape) (e3 : w'.output = w1.output) : Went P η σ h c w σ' h' c' w' :=
  ⟨x.ext, x.rel.heap e, ⟨e1.trans x.kept.os, e2.trans x.kept.tape, e3.trans x.kept.output, by rw [e]; exact x.kept.size, fun k hk hS => by rw [e]; exact x.kept.block k hk hS⟩, x.liv, x.off⟩

theorem deep_ok {n : Nat} (h : n ≤ bigN) : n < 2 ^ deep - 1 := by unfold bigN at h; unfold deep; omega
theorem get_put {α : Type} {t : Tr α} {n : Nat} {x : Option α} (h : n ≤ bigN) (m : Nat) : (Tr.set deep t n x).get m = if m = n then x else t.get m := by
  by_cases e : m = n
  · subst e; rw [if_pos rfl]; exact Tr.get_set_same deep t m x (deep_ok h)
  · rw [if_neg e]; exact Tr.get_set_other deep t n m x (fun q => e q.symm)
theorem putObj_ok {h : Heap} {n : Nat} {o : Option AObj} {k : Heap → Option Out} {r : Out} (e : putObj h n o k = some r) : n ≤ bigN ∧ k (h.set deep n o) = some r := by
  unfold putObj at e
  cases eb : Nat.ble n bigN with
  | false => simp [eb] at e
  | true => simp only [eb, cond_true, setK_eq] at e; exact ⟨Nat.le_of_ble_eq_true eb, e⟩

def upd (σ : Sig) (c : Nat) (l : Loc) : Sig := fun n => if n = c then some l else σ n
theorem upd_same (σ : Sig) (c : Nat) (l : Loc) : upd σ c l c = some l := by simp [upd]
theorem upd_other {σ : Sig} {c n : Nat} {l : Loc} (h : n ≠ c) : upd σ c l n = σ n := by simp [upd, h]
theorem ext_upd {σ : Sig} {c : Nat} {l : Loc} (h : σ c = none) : Ext σ (upd σ c l) := by
  intro n k hn
  by_cases e : n = c
  · subst e; rw [h] at hn; cases hn
  · rw [upd_other e]; exact hn

/-- A name goes: it counts no more. -/
theorem kill_ok {h : Heap} {c n : Nat} {w : World} (H : HR P σ η h c w) (hn : n ≤ bigN) : Went P η σ h c w σ (h.set deep n none) c w := by
  have back : ∀ m, ((h.set deep n none).get m).isSome = true → (h.get m).isSome = true := by
    intro m hm; rw [get_put hn] at hm; split at hm
    · cases hm
    · exact hm
  refine ⟨Ext.refl _, ⟨fun m o hm => ?_, fun a b l k ha hb => H.inj a b l k (back a ha) (back b hb), H.new, H.glob⟩, Kept.refl _ _, fun b _ ⟨m, l, hm, hl, e⟩ => ⟨m, l, back m hm, hl, e⟩, fun m l hm hl => .inr ⟨m, l, back m hm, hl, rfl⟩⟩
  rw [get_put hn] at hm
  split at hm
  · cases hm
  · exact H.obj m o hm

/-- A name's object turns into another one. -/
theorem put_ok {h : Heap} {c n : Nat} {w w' : World} {o : AObj} {O : Obj} {l : Loc} (H : HR P σ η h c w) (hn : n ≤ bigN) (hl : σ n = some l) (hlive : (h.get n).isSome = true) (hw : w' = { w with heap := w.heap.setIfInBounds l.blk O }) (ho : ObjR P σ η w' l o) :
    Went P η σ h c w σ (h.set deep n (some o)) c w' := by
  have live : ∀ m, ((h.set deep n (some o)).get m).isSome = true → (h.get m).isSome = true := by
    intro m hm; rw [get_put hn] at hm; split at hm
    · rename_i e; subst e; exact hlive
    · exact hm
  subst hw
  refine ⟨Ext.refl _, ⟨fun m q hm => ?_, fun a b x y ha hb => H.inj a b x y (live a ha) (live b hb), H.new, H.glob⟩, ⟨rfl, rfl, rfl, by simp, fun k hk hS => ?_⟩, fun b _ ⟨m, x, hm, hx, e⟩ => ⟨m, x, live m hm, hx, e⟩, fun m x hm hx => .inr ⟨m, x, live m hm, hx, rfl⟩⟩
  · rw [get_put hn] at hm
    split at hm
    · rename_i e; subst e; cases hm; exact ⟨l, hl, ho⟩
    · rename_i e
      obtain ⟨x, hx, ob⟩ := H.obj m q hm
      refine ⟨x, hx, ob.block ?_⟩
      have : l.blk ≠ x.blk := fun q' => e (H.inj m n x l (by rw [hm]; rfl) hlive hx hl q'.symm)
      simp [Array.getElem?_setIfInBounds_ne this]
  · have : l.blk ≠ k := fun e => hS ⟨n, l, hlive, hl, e⟩
    simp [Array.getElem?_setIfInBounds_ne this]

/-- A new object gets the next name. -/
theorem new_ok {h : Heap} {c sl : Nat} {w w' : World} {o : AObj} {O : Obj} (H : HR P σ η h c w) (hc : c ≤ bigN) (hw : w'.heap = w.heap.push O) (e1 : w'.os = w.os) (e2 : w'.tape = w.tape) (e3 : w'.output = w.output)
    (ho : ObjR P (upd σ c ⟨w.heap.size, 0, sl⟩) η w' ⟨w.heap.size, 0, sl⟩ o) : Went P η σ h c w (upd σ c ⟨w.heap.size, 0, sl⟩) (h.set deep c (some o)) (c + 1) w' := by
  have hx := ext_upd (l := ⟨w.heap.size, 0, sl⟩) (H.new c (Nat.le_refl _))
  have old : ∀ n, (h.get n).isSome = true → n ≠ c ∧ ∃ l, σ n = some l ∧ l.blk < w.heap.size := by
    intro n hn
    cases e : h.get n with
    | none => rw [e] at hn; cases hn
    | some q =>
      obtain ⟨l, hl, ob⟩ := H.obj n q e
      refine ⟨fun k => ?_, l, hl, ob.lt⟩
      subst k; rw [H.new n (Nat.le_refl _)] at hl; cases hl
  refine ⟨hx, ⟨fun m q hm => ?_, fun a b x y ha hb hxa hxb e => ?_, fun n hn => ?_, fun g hg => ?_⟩, ⟨e1, e2, e3, by rw [hw]; simp, fun k hk _ => ?_⟩, fun b hb ⟨m, x, hm, hmx, e⟩ => ?_, fun m x hm hmx => ?_⟩
  · rw [get_put hc] at hm
    split at hm
    · rename_i e; subst e; cases hm; exact ⟨_, upd_same _ _ _, ho⟩
    · rename_i e
      obtain ⟨x, hx1, ob⟩ := H.obj m q hm
      refine ⟨x, hx m x hx1, (ob.ext hx).block ?_⟩
      rw [hw]
      exact Array.getElem?_push_lt ob.lt |>.trans (by simp [Array.getElem?_eq_getElem ob.lt])
  · rw [get_put hc] at ha hb
    by_cases ea : a = c <;> by_cases eb : b = c
    · rw [ea, eb]
    · rw [if_neg eb] at hb
      obtain ⟨_, l, hl, hlt⟩ := old b hb
      rw [ea, upd_same] at hxa; rw [upd_other eb, hl] at hxb
      cases hxa; cases hxb; simp at e; omega
    · rw [if_neg ea] at ha
      obtain ⟨_, l, hl, hlt⟩ := old a ha
      rw [eb, upd_same] at hxb; rw [upd_other ea, hl] at hxa
      cases hxa; cases hxb; simp at e; omega
    · rw [if_neg ea] at ha; rw [if_neg eb] at hb
      rw [upd_other ea] at hxa; rw [upd_other eb] at hxb
      exact H.inj a b x y ha hb hxa hxb e
  · rw [upd_other (by omega)]; exact H.new n (by omega)
  · obtain ⟨s, hs⟩ := H.glob g hg; exact ⟨s, hx _ _ hs⟩
  · rw [hw]; exact Array.getElem?_push_lt hk |>.trans (by simp [Array.getElem?_eq_getElem hk])
  · rw [get_put hc] at hm
    by_cases em : m = c
    · rw [em, upd_same] at hmx; cases hmx; simp at e; omega
    · rw [if_neg em] at hm; rw [upd_other em] at hmx; exact ⟨m, x, hm, hmx, e⟩
  · rw [get_put hc] at hm
    by_cases em : m = c
    · rw [em, upd_same] at hmx; cases hmx; exact .inl rfl
    · rw [if_neg em] at hm; rw [upd_other em] at hmx; exact .inr ⟨m, x, hm, hmx, rfl⟩

/-- New cells. -/
theorem newCells_ok {h h' : Heap} {c c' sl t : Nat} {w w' : World} {cs : List AV} {v v' : AV} {vs : List Value} {C : Array Value} {fr : Nat × Nat} (e : newCells h c t cs v = some (.val v' h' c')) (H : HR P σ η h c w) (h1 : concs σ η cs = some vs) (h2 : allOne vs = true)
    (h3 : ∀ (i : Nat) (x : Value), vs[i]? = some x → C[i]? = some x) (h4 : vs.length + sl * P.cellsOf t ≤ C.size) (h5 : ∀ i, i < lim P t C.size → ¬ (fr.1 ≤ i ∧ i < fr.2)) (hw : w'.heap = w.heap.push (.cells C t fr)) (e1 : w'.os = w.os) (e2 : w'.tape = w.tape) (e3 : w'.output = w.output) :
    v' = v ∧ Went P η σ h c w (upd σ c ⟨w.heap.size, 0, sl⟩) h' c' w' := by
  unfold newCells fCells at e
  rw [fAVs_eq] at e
  obtain ⟨hc, e⟩ := putObj_ok e
  rw [fNat_eq] at e
  cases e
  refine ⟨rfl, new_ok H hc hw e1 e2 e3 ⟨C, fr, vs, ?_, h5, concs_ext (ext_upd (H.new c (Nat.le_refl _))) h1, h2, by simpa using h3, by simpa using h4⟩⟩
  rw [hw]; simp

theorem run_storeCells {w : World} {b : Nat} {c : Array Value} {t : TypeId} {fr : Nat × Nat} (hb : w.heap[b]? = some (.cells c t fr)) (hf : ∀ i, i < c.size → ¬ (fr.1 ≤ i ∧ i < fr.2)) : ∀ (vs : List Value) (p i : Nat), allOne vs = true → p + i + vs.length ≤ c.size →
    (storeCells ⟨b, p, none⟩ vs i).run P w = .ok () { w with heap := w.heap.setIfInBounds b (.cells ⟨layL c.toList (p + i) vs⟩ t fr) }
  | [], p, i, _, _ => by
    simp only [storeCells, Sem.run_pure]
    congr 1
    have : (⟨layL c.toList (p + i) []⟩ : Array Value) = c := by simp [layL]
    rw [this]
    have hlt : b < w.heap.size := by
      rcases Nat.lt_or_ge b w.heap.size with h | h
      · exact h
      · rw [Array.getElem?_eq_none h] at hb; cases hb
    have : w.heap.setIfInBounds b (.cells c t fr) = w.heap := by
      apply Array.ext_getElem?
      intro k
      by_cases e : b = k
      · subst e; rw [Array.getElem?_setIfInBounds_self, if_pos hlt, hb]
      · rw [Array.getElem?_setIfInBounds_ne e]
    rw [this]
  | v :: vs, p, i, h1, h2 => by
    simp only [allOne, Bool.and_eq_true] at h1
    simp only [List.length_cons] at h2
    have hlt : b < w.heap.size := by
      rcases Nat.lt_or_ge b w.heap.size with h | h
      · exact h
      · rw [Array.getElem?_eq_none h] at hb; cases hb
    have hcell : ∃ u, w.cell? ⟨b, p + i, none⟩ = some u := by
      simp only [World.cell?, hb]
      exact ⟨_, Array.getElem?_eq_getElem (by omega)⟩
    obtain ⟨u, hu⟩ := hcell
    have hfr : w.frozen? ⟨b, p + i, none⟩ = false := by
      simp only [World.frozen?, hb]
      have := hf (p + i) (by omega)
      simpa using this
    simp only [storeCells, Sem.run_bind, add_plain]
    rw [run_store P w _ v _ h1.1, hu]
    simp only [hfr, Bool.false_eq_true, if_false, Result.andThen_ok]
    have hw1 : w.setCell ⟨b, p + i, none⟩ v = { w with heap := w.heap.setIfInBounds b (.cells (c.setIfInBounds (p + i) v) t fr) } := by
      simp only [World.setCell]
      congr 1
      apply Array.ext_getElem?
      intro k
      by_cases e : b = k
      · subst e
        rw [Array.getElem?_setIfInBounds_self, if_pos hlt, Array.getElem?_modify]
        simp [hb]
      · rw [Array.getElem?_setIfInBounds_ne e, Array.getElem?_modify]
        simp [e]
    rw [hw1]
    rw [run_storeCells (w := { w with heap := w.heap.setIfInBounds b (.cells (c.setIfInBounds (p + i) v) t fr) }) (c := c.setIfInBounds (p + i) v) (t := t) (fr := fr) (b := b) (by simp [hlt]) (by simpa using hf) vs p (i + 1) h1.2 (by simp; omega)]
    congr 1
    have e2 : (layL (c.setIfInBounds (p + i) v).toList (p + (i + 1)) vs) = layL c.toList (p + i) (v :: vs) := by
      have hl : p + i < c.toList.length := by simp; omega
      simp only [layL, Array.toList_setIfInBounds]
      have e1 : (c.toList.set (p + i) v).take (p + (i + 1)) = c.toList.take (p + i) ++ [v] := by
        rw [← Nat.add_assoc, List.take_succ_eq_append_getElem (by simpa using hl)]
        simp [List.take_set]
        exact List.set_eq_of_length_le (by simp; omega)
      have e2 : (c.toList.set (p + i) v).drop (p + (i + 1) + vs.length) = c.toList.drop (p + i + (v :: vs).length) := by
        rw [List.drop_set_of_lt (by omega)]
        simp only [List.length_cons]
        congr 1
        omega
      rw [e1, e2]
      simp
    rw [e2]
    simp

theorem layL_get {L V : List Value} {o i : Nat} (h : o + V.length ≤ L.length) : (layL L o V)[i]? = if i < o then L[i]? else if i < o + V.length then V[i - o]? else L[i]? := by
  have ht : (L.take o).length = o := by simp; omega
  have ht2 : (L.take o ++ V).length = o + V.length := by rw [List.length_append, ht]
  unfold layL
  rw [List.getElem?_append, List.getElem?_append, ht, ht2]
  rcases Nat.lt_or_ge i o with q | q
  · rw [if_pos (by omega), if_pos q, if_pos q, List.getElem?_take_of_lt q]
  · rw [if_neg (show ¬ i < o by omega), if_neg (show ¬ i < o by omega)]
    split
    · rfl
    · rw [List.getElem?_drop]; congr 1; omega

/-- Values are laid into a name's cells, as far as they are known. -/
theorem lay_ok {h : Heap} {c n t : Nat} {cs cs' : List AV} {o : Nat} {vs : List AV} {V : List Value} {w : World} {l : Loc} (H : HR P σ η h c w) (hn : cells? h n = some (t, cs)) (hb : n ≤ bigN) (hl : σ n = some l) (he : lay? cs o vs = some cs') (hv : concs σ η vs = some V) (h1 : allOne V = true) :
    ∃ w', (storeCells ⟨l.blk, l.off + o, none⟩ V).run P w = .ok () w' ∧ Went P η σ h c w σ (h.set deep n (some (.cells t cs'))) c w' := by
  have hg := cells?_iff.1 hn
  obtain ⟨l', hl', ob⟩ := H.obj n _ hg
  rw [hl] at hl'; cases hl'
  obtain ⟨C, fr, us, k1, k2, k3, k4, k5, k6⟩ := ob
  obtain ⟨m1, m2, m3⟩ := lay?_ok he k3 hv
  refine ⟨_, run_storeCells (P := P) k1 (fun j hj => k2 j (Nat.lt_of_lt_of_le hj lim_le)) V (l.off + o) 0 h1 (by omega), ?_⟩
  have hlt : l.blk < w.heap.size := by
    rcases Nat.lt_or_ge l.blk w.heap.size with h | h
    · exact h
    · rw [Array.getElem?_eq_none h] at k1; cases k1
  refine put_ok H hb hl (by rw [hg]; rfl) rfl ⟨_, fr, layL us o V, by simp only [Array.getElem?_setIfInBounds_self, if_pos hlt]; rfl, ?_, m1, layL_one k4 h1, fun i v hi => ?_, ?_⟩
  · intro i hi
    refine k2 i ?_
    have := layL_length (L := C.toList) (V := V) (o := l.off + o + 0) (by simp; omega)
    have hi' : i < lim P t (layL C.toList (l.off + o + 0) V).length := by simpa using hi
    rw [this] at hi'
    simpa using hi'
  · -- the cells
    simp only [List.getElem?_toArray, Nat.add_zero]
    have cell : ∀ j, j < us.length → C.toList[l.off + j]? = us[j]? := by
      intro j hj
      rw [List.getElem?_eq_getElem hj]
      have := k5 j _ (List.getElem?_eq_getElem hj)
      simpa using this
    have hil : i < us.length := by
      rcases Nat.lt_or_ge i us.length with q | q
      · exact q
      · have hlen := layL_length (L := us) (V := V) (o := o) m2
        rw [List.getElem?_eq_none (by omega)] at hi; cases hi
    rw [← hi]
    have e1 := layL_get (L := C.toList) (V := V) (o := l.off + o) (i := l.off + i) (by simp; omega)
    have e2 := layL_get (V := V) (i := i) m2
    rw [e1, e2]
    rcases Nat.lt_or_ge i o with q | q
    · rw [if_pos (show l.off + i < l.off + o by omega), if_pos q]; exact cell i hil
    · rcases Nat.lt_or_ge i (o + V.length) with q2 | q2
      · rw [if_neg (show ¬ l.off + i < l.off + o by omega), if_pos (show l.off + i < l.off + o + V.length by omega), if_neg (show ¬ i < o by omega), if_pos q2]
        rw [show l.off + i - (l.off + o) = i - o by omega]
      · rw [if_neg (show ¬ l.off + i < l.off + o by omega), if_neg (show ¬ l.off + i < l.off + o + V.length by omega), if_neg (show ¬ i < o by omega), if_neg (show ¬ i < o + V.length by omega)]
        exact cell i hil
  · have q1 := layL_length (L := us) (V := V) (o := o) m2
    have q2 := layL_length (L := C.toList) (V := V) (o := l.off + o + 0) (by simp; omega)
    simp only [List.size_toArray]
    rw [q1, q2]
    simpa using k6
end Go.Eng

