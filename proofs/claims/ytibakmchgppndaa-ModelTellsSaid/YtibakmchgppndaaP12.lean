/- TellsA, Bits, Open, Tells, Ask -/
import Derived.Test.YtibakmchgppndaaP11
/- What is asked of a model, and of the document's: one contract for each, may it be or not. -/
namespace Go.Proofs.Ytibakmchgppndaa
open Go.RowKit

def errG (b : Bool) : Int := if b = true then 0 else 2
def getT (t : Int) : Int := if getOk t = true then t else 0
def getL (t : Int) (R : List Spn) : List Spn := if getOk t = true then ofTr t R else []
def scN (a li : Int) (R : List Spn) : Int := if scanOk a li = true then nextF a (pageT a li.toNat R) else 0
def scM (a li : Int) (R : List Spn) : Bool := if scanOk a li = true then moreF a li.toNat R else false
def scL (a li : Int) (R : List Spn) : List (Int × List Spn) := if scanOk a li = true then pageF a li.toNat R else []
def fiL (q : Qry) (R : List Spn) : List Int := if qOk q = true then findF q R else []
noncomputable def trR (t : Int) (R : List Spn) : Fr := if getOk t = true then rootsF (cntF (ofTr t R)) else .nil
noncomputable def trO (t : Int) (R : List Spn) : Fr := if getOk t = true then orphF (cntF (ofTr t R)) else .nil
theorem readsS_nil (w : World) : ReadsS w (.slice none 0 0) [] := ⟨none, 0, rfl, .inl rfl⟩
theorem readsP_nil (w : World) : ReadsP w (.slice none 0 0) [] := ⟨none, 0, rfl, .inl rfl⟩
theorem readsI_nil (w : World) : ReadsI w (.slice none 0 0) [] := ⟨none, 0, rfl, Nat.le_refl _, .inl rfl⟩
theorem readsF_nil (S : Nat → Prop) (w : World) : ReadsF S w (.slice none 0 0) .nil := ⟨none, 0, rfl, .inl rfl⟩
section
variable {w : World} {p b mp : Nat} {M L : List Spn} {now : Int}
theorem get_m (t : Int) (h1 : 0 ≤ now) (h2 : now ≤ 4294967296) (h : ModelAt w p b M) (hA : Alike now M L) (hM : M.length ≤ 1000) :
  Calls Try.prog 16 #[.pointer (some ⟨p, 0, none⟩), .int .i64 t, .int .i64 now] w fun e w' => ∃ v, e = .returned (.tuple #[.agg #[.int .i64 (getT t), v], .int .i64 (errG (getOk t))]) ∧ ReadsS w' v (getL t (rowR now L)) ∧ Kept (fun _ => False) w w' := by
 cases hb : getOk t with
 | false =>
  refine (get_bad t now hb h).mono fun e w' ⟨he, k⟩ => ⟨.slice none 0 0, ?_, ?_, k⟩
  ·rw [he]; unfold getT errG; rw [hb]; rfl
  ·unfold getL; rw [hb]; exact readsS_nil _
 | true =>
  refine (get_all t now hb h1 h2 h (by omega)).mono fun e w' ⟨v, R, he, hr, hp, hs, k⟩ => ⟨v, ?_, ?_, k⟩
  ·rw [he]; unfold getT errG; rw [hb]; rfl
  ·unfold getL; rw [hb, if_pos rfl, ← hA.row hp hs]; exact hr
theorem get_r (t : Int) (h1 : 0 ≤ now) (h2 : now ≤ 4294967296) (h : RefAt w mp L) (hA : Alike now M L) (hL : L.length ≤ 1000) :
  Calls Try.prog 17 #[.pointer (some ⟨mp, 0, none⟩), .int .i64 t, .int .i64 now] w fun e w' => ∃ v, e = .returned (.tuple #[.agg #[.int .i64 (getT t), v], .int .i64 (errG (getOk t))]) ∧ ReadsS w' v (getL t (rowR now L)) ∧ Kept (fun _ => False) w w' := by
 cases hb : getOk t with
 | false =>
  refine (rget_bad t now hb).mono fun e w' ⟨he, k⟩ => ⟨.slice none 0 0, ?_, ?_, k⟩
  ·rw [he]; unfold getT errG; rw [hb]; rfl
  ·unfold getL; rw [hb]; exact readsS_nil _
 | true =>
  refine (rget_all t now hb h1 h2 h hA.may (by omega)).mono fun e w' ⟨v, he, hr, k⟩ => ⟨v, ?_, ?_, k⟩
  ·rw [he]; unfold getT errG; rw [hb]; rfl
  ·unfold getL; rw [hb, if_pos rfl]; exact ReadsS.of_row hr
theorem scan_m (a li : Int) (h1 : 0 ≤ now) (h2 : now ≤ 4294967296) (h : ModelAt w p b M) (hA : Alike now M L) (hM : M.length ≤ 1000) :
  Calls Try.prog 18 #[.pointer (some ⟨p, 0, none⟩), .int .i64 a, .int .i64 li, .int .i64 now] w fun e w' => ∃ v, e = .returned (.tuple #[.agg #[v, .int .i64 (scN a li (rowR now L)), .bool (scM a li (rowR now L))], .int .i64 (errG (scanOk a li))]) ∧ ReadsP w' v (scL a li (rowR now L)) ∧ Kept (fun _ => False) w w' := by
 cases hb : scanOk a li with
 | false =>
  refine (scan_bad a li now hb h).mono fun e w' ⟨he, k⟩ => ⟨.slice none 0 0, ?_, ?_, k⟩
  ·rw [he]; unfold scN scM errG; rw [hb]; rfl
  ·unfold scL; rw [hb]; exact readsP_nil _
 | true =>
  refine (scan_all a li now hb h1 h2 h (by omega)).mono fun e w' ⟨v, R, he, hr, hp, hs, k⟩ => ⟨v, ?_, ?_, k⟩
  ·rw [he]; unfold scN scM errG; rw [hb, hA.row hp hs]; rfl
  ·unfold scL; rw [hb, if_pos rfl, ← hA.row hp hs]; exact hr
theorem scan_r (a li : Int) (h1 : 0 ≤ now) (h2 : now ≤ 4294967296) (h : RefAt w mp L) (hA : Alike now M L) (hL : L.length ≤ 1000) :
  Calls Try.prog 19 #[.pointer (some ⟨mp, 0, none⟩), .int .i64 a, .int .i64 li, .int .i64 now] w fun e w' => ∃ v, e = .returned (.tuple #[.agg #[v, .int .i64 (scN a li (rowR now L)), .bool (scM a li (rowR now L))], .int .i64 (errG (scanOk a li))]) ∧ ReadsP w' v (scL a li (rowR now L)) ∧ Kept (fun _ => False) w w' := by
 cases hb : scanOk a li with
 | false =>
  refine (rscan_bad a li now hb).mono fun e w' ⟨he, k⟩ => ⟨.slice none 0 0, ?_, ?_, k⟩
  ·rw [he]; unfold scN scM errG; rw [hb]; rfl
  ·unfold scL; rw [hb]; exact readsP_nil _
 | true =>
  refine (rscan_all a li now hb h1 h2 h hA.may (by omega) (by have := row_len now L; omega) (row_traces hA.may a)).mono fun e w' ⟨v, he, hr, k⟩ => ⟨v, ?_, ?_, k⟩
  ·rw [he]; unfold scN scM errG; rw [hb]; rfl
  ·unfold scL; rw [hb, if_pos rfl]; exact hr
theorem find_m (q : Qry) (s1 : q.se.size ≤ 9223372036854775807) (s2 : q.ho.size ≤ 9223372036854775807) (h1 : 0 ≤ now) (h2 : now ≤ 4294967296) (h : ModelAt w p b M) (hA : Alike now M L) (hM : M.length ≤ 1000) :
  Calls Try.prog 20 #[.pointer (some ⟨p, 0, none⟩), .agg #[.string q.se, .string q.ho, .int .i64 q.fr, .int .i64 q.tt, .int .i64 q.li], .int .i64 now] w fun e w' => ∃ v, e = .returned (.tuple #[v, .int .i64 (errG (qOk q))]) ∧ ReadsI w' v (fiL q (rowR now L)) ∧ Kept (fun _ => False) w w' := by
 cases hb : qOk q with
 | false =>
  refine (find_bad q now hb s1 s2 h).mono fun e w' ⟨he, k⟩ => ⟨.slice none 0 0, ?_, ?_, k⟩
  ·rw [he]; unfold errG; rfl
  ·unfold fiL; rw [hb]; exact readsI_nil _
 | true =>
  refine (find_all q now hb s1 s2 h1 h2 h (by omega)).mono fun e w' ⟨v, R, he, hr, hp, hs, k⟩ => ⟨v, ?_, ?_, k⟩
  ·rw [he]; unfold errG; rfl
  ·unfold fiL findF; rw [hb, if_pos rfl, ← hA.row hp hs]; exact hr
theorem find_r (q : Qry) (s1 : q.se.size ≤ 9223372036854775807) (s2 : q.ho.size ≤ 9223372036854775807) (h1 : 0 ≤ now) (h2 : now ≤ 4294967296) (h : RefAt w mp L) (hA : Alike now M L) (hL : L.length ≤ 1000) :
  Calls Try.prog 21 #[.pointer (some ⟨mp, 0, none⟩), .agg #[.string q.se, .string q.ho, .int .i64 q.fr, .int .i64 q.tt, .int .i64 q.li], .int .i64 now] w fun e w' => ∃ v, e = .returned (.tuple #[v, .int .i64 (errG (qOk q))]) ∧ ReadsI w' v (fiL q (rowR now L)) ∧ Kept (fun _ => False) w w' := by
 cases hb : qOk q with
 | false =>
  refine (rfind_bad q now hb s1 s2).mono fun e w' ⟨he, k⟩ => ⟨.slice none 0 0, ?_, ?_, k⟩
  ·rw [he]; unfold errG; rfl
  ·unfold fiL; rw [hb]; exact readsI_nil _
 | true =>
  refine (rfind_all q now hb s1 s2 h1 h2 h hA.may (by omega)).mono fun e w' ⟨v, he, hr, k⟩ => ⟨v, ?_, ?_, k⟩
  ·rw [he]; unfold errG; rfl
  ·unfold fiL; rw [hb, if_pos rfl]; exact hr
theorem tree_m (t : Int) (h1 : 0 ≤ now) (h2 : now ≤ 4294967296) (h : ModelAt w p b M) (hA : Alike now M L) (hM : M.length ≤ 1000) :
  Calls Try.prog 22 #[.pointer (some ⟨p, 0, none⟩), .int .i64 t, .int .i64 now] w fun e w' => ∃ rv ov, e = .returned (.tuple #[.agg #[rv, ov], .int .i64 (errG (getOk t))]) ∧ ReadsF (fun _ => True) w' rv (trR t (rowR now L)) ∧ ReadsF (fun _ => True) w' ov (trO t (rowR now L)) ∧ Kept (fun _ => False) w w' := by
 cases hb : getOk t with
 | false =>
  refine (tree_bad t now hb h).mono fun e w' ⟨he, k⟩ => ⟨.slice none 0 0, .slice none 0 0, ?_, ?_, ?_, k⟩
  ·rw [he]; unfold errG; rfl
  ·unfold trR; rw [hb]; exact readsF_nil _ _
  ·unfold trO; rw [hb]; exact readsF_nil _ _
 | true =>
  refine (tree_all t now hb h1 h2 h hM).mono fun e w' ⟨rv, ov, R, he, hr, ho, hp, hs, k⟩ => ⟨rv, ov, ?_, ?_, ?_, k⟩
  ·rw [he]; unfold errG; rfl
  ·unfold trR; rw [hb, if_pos rfl, ← hA.row hp hs]; exact hr
  ·unfold trO; rw [hb, if_pos rfl, ← hA.row hp hs]; exact ho
theorem tree_r (t : Int) (h1 : 0 ≤ now) (h2 : now ≤ 4294967296) (h : RefAt w mp L) (hA : Alike now M L) (hL : L.length ≤ 1000) :
  Calls Try.prog 23 #[.pointer (some ⟨mp, 0, none⟩), .int .i64 t, .int .i64 now] w fun e w' => ∃ rv ov, e = .returned (.tuple #[.agg #[rv, ov], .int .i64 (errG (getOk t))]) ∧ ReadsF (fun _ => True) w' rv (trR t (rowR now L)) ∧ ReadsF (fun _ => True) w' ov (trO t (rowR now L)) ∧ Kept (fun _ => False) w w' := by
 cases hb : getOk t with
 | false =>
  refine (rtree_bad t now hb).mono fun e w' ⟨he, k⟩ => ⟨.slice none 0 0, .slice none 0 0, ?_, ?_, ?_, k⟩
  ·rw [he]; unfold errG; rfl
  ·unfold trR; rw [hb]; exact readsF_nil _ _
  ·unfold trO; rw [hb]; exact readsF_nil _ _
 | true =>
  refine (rtree_all t now hb h1 h2 h hA.may hL).mono fun e w' ⟨rv, ov, he, hr, ho, k⟩ => ⟨rv, ov, ?_, ?_, ?_, k⟩
  ·rw [he]; unfold errG; rfl
  ·unfold trR; rw [hb, if_pos rfl]; exact hr
  ·unfold trO; rw [hb, if_pos rfl]; exact ho
end
/-! how great the answers are -/
theorem getL_len (t : Int) (R : List Spn) : (getL t R).length ≤ R.length := by
 unfold getL; split
 ·exact ofTr_len t R
 ·simp
theorem scL_len (a li : Int) (R : List Spn) : (scL a li R).length ≤ R.length ∧ ∀ x ∈ scL a li R, x.2.length ≤ R.length := by
 unfold scL; split
 ·unfold pageF pageT
  refine ⟨?_, fun x hx => ?_⟩
  ·rw [List.length_map, List.length_take]; have := traces_len a R; omega
  ·obtain ⟨t, _, rfl⟩ := List.mem_map.1 hx; exact ofTr_len t R
 ·simp
theorem dedI_len : ∀ T : List Int, (dedI T).length ≤ T.length := snoc_ind (by simp [dedI]) (fun T x ih => by
 rw [dedI_snoc]; unfold dStep; split <;> simp <;> omega)
theorem fiL_len (q : Qry) (R : List Spn) : (fiL q R).length ≤ R.length := by
 unfold fiL; split
 ·unfold findF; rw [List.length_take]; have h1 := dedI_len (hitT q R); have h2 := hit_len q R; omega
 ·simp
theorem forF_wide (g : Nat → Fr) (R : List Spn) (b : Nat) : ∀ l : List Nat, (∀ k ∈ l, (g k).len ≤ b ∧ (g k).wide b) → (forF g R l).wide b
 | [], _ => trivial
 | k :: t, h => ⟨(h k (by simp)).1, (h k (by simp)).2, forF_wide g R b t (fun q hq => h q (by simp [hq]))⟩
theorem subF_wide (R : List Spn) : ∀ d i, (subF R d i).len ≤ R.length ∧ (subF R d i).wide R.length
 | 0, _ => ⟨Nat.zero_le _, trivial⟩
 | d + 1, i => ⟨by rw [subF, forF_len]; exact kidF_len R R.length i, forF_wide _ _ _ _ (fun k _ => subF_wide R d k)⟩
theorem wide_mono {a b : Nat} (h : a ≤ b) : ∀ f : Fr, f.wide a → f.wide b
 | .nil, _ => trivial
 | .cons _ k r, ⟨h1, h2, h3⟩ => ⟨Nat.le_trans h1 h, wide_mono h k h2, wide_mono h r h3⟩
theorem roots_wide (R : List Spn) (h : R.length ≤ 1000) : (rootsF R).len ≤ 1000 ∧ (rootsF R).wide 1000 := by
 refine ⟨?_, wide_mono h _ (forF_wide _ _ _ _ (fun k _ => subF_wide R _ k))⟩
 rw [rootsF, forF_len, rootsL]
 exact Nat.le_trans (List.length_filter_le _ _) (by simpa using h)
theorem orph_wide (R : List Spn) (h : R.length ≤ 1000) : (orphF R).len ≤ 1000 ∧ (orphF R).wide 1000 := by
 refine ⟨?_, wide_mono h _ (forF_wide _ _ _ _ (fun k _ => subF_wide R _ k))⟩
 rw [orphF, forF_len, orphL]
 exact Nat.le_trans (List.length_filter_le _ _) (by simpa using h)
theorem trR_wide (t : Int) (R : List Spn) (h : R.length ≤ 1000) : (trR t R).len ≤ 1000 ∧ (trR t R).wide 1000 := by
 unfold trR; split
 ·exact roots_wide _ (Nat.le_trans (cntF_len _) (Nat.le_trans (ofTr_len t R) h))
 ·exact ⟨Nat.zero_le _, trivial⟩
theorem trO_wide (t : Int) (R : List Spn) (h : R.length ≤ 1000) : (trO t R).len ≤ 1000 ∧ (trO t R).wide 1000 := by
 unfold trO; split
 ·exact orph_wide _ (Nat.le_trans (cntF_len _) (Nat.le_trans (ofTr_len t R) h))
 ·exact ⟨Nat.zero_le _, trivial⟩
theorem nodes_refl (w : World) (va vb : Value) (f : Fr) (hw : f.len ≤ 1000 ∧ f.wide 1000) (ha : ReadsF (fun _ => True) w va f) (hb : ReadsF (fun _ => True) w vb f) :
  Calls Try.prog 26 #[va, vb] w fun e w' => e = .returned (.bool true) ∧ Kept (fun _ => False) w w' :=
 (samenodes_any _ _ (f.size + 1) w va vb f f (by omega) hw ha hb).mono fun e w' ⟨he, k⟩ => ⟨by rw [he, sameB_refl], k⟩
end Go.Proofs.Ytibakmchgppndaa
/- Small laws of the walks over a model. -/
namespace Go.Proofs.Ytibakmchgppndaa
open Go.RowKit Go.MapKept Go.Instr Go.ChangeMaps

theorem chk_fits {m : Spn} (h : chkB m = true) : Fits m := by
 unfold chkB nameB at h
 simp at h
 unfold Fits
 omega
theorem ReadsS.of_own {w : World} {base : Nat} {v : Value} {L : List Spn} (h : w.ownsRow base 37 8 v L.length (cellsS L)) : ReadsS w v L := by
 rcases row_form h with ⟨rfl, h0⟩ | ⟨g, c, rfl, _, _, _, hc⟩
 ·exact ⟨none, 0, by rw [h0], .inl (List.eq_nil_of_length_eq_zero h0)⟩
 ·exact ⟨_, c, rfl, .inr ⟨g, 0, rfl, fun j u hu => by rw [Nat.zero_add]; exact hc j u hu⟩⟩
theorem kept_new {b : Nat} {w a c : World} (h : Kept (fun _ => False) w a) (k : Kept (fun q => q = b) a c) (hb : w.heap.size ≤ b) : Kept (fun _ => False) w c :=
 h.trans k (fun _ _ f => f) (fun q hq e => absurd hq (by rw [e]; exact Nat.not_lt.2 hb))
end Go.Proofs.Ytibakmchgppndaa
/- How a list of acts reads as an argument. -/
namespace Go.Proofs.Ytibakmchgppndaa
open Go.ChangeShapes Go.WideShapes Go.ChangeAt Go.RowKit Go.Deep

theorem cellsOf5 : Try.prog.cellsOf 5 = 1 := by kernel_rfl
theorem cellsOf27 : Try.prog.cellsOf 27 = 1 := by kernel_rfl
theorem cellsOf29 : Try.prog.cellsOf 29 = 3 := by kernel_rfl
theorem cellsOf31 : Try.prog.cellsOf 31 = 4 := by kernel_rfl
instance : Inhabited ActP := ⟨⟨[], 0⟩⟩
theorem u8_bounds {k : Int} (h : (Lit.int .u8 k).wf = true) : 0 ≤ k ∧ k < 256 := by
 simp [Lit.wf, IntKind.min, IntKind.max, IntKind.signed, IntKind.bits] at h
 omega
section
variable {H : Type} {enc : TypeId × Value → H} {w : World} {spare : Nat → Bool} {held : Bool} {fuel : Nat} {cs : List Value} {x : DataW H × List MemPlace}
def GoodA (w : World) (sv : Value) (a : ActP) : Prop := ReadsS w sv a.spans ∧ a.spans.length ≤ maxLen ∧ (∀ y ∈ a.spans, y.se.size ≤ maxLen ∧ y.ho.size ≤ maxLen ∧ y.no.size ≤ maxLen) ∧ 0 ≤ a.ticks ∧ a.ticks ≤ 255
set_option maxRecDepth 100000 in
theorem batch_cells (h : DataW.trod enc Try.prog w 0 spare held fuel 29 cs = some x) : ∃ (a b : Int) (sv : Value), cs = [.int .i64 a, .int .i64 b, sv] ∧ ∃ R : List Spn, ReadsS w sv R ∧ R.length ≤ maxLen ∧ ∀ y ∈ R, y.se.size ≤ maxLen ∧ y.ho.size ≤ maxLen ∧ y.no.size ≤ maxLen := by
 obtain ⟨xs, n, _, rfl, hl, hlen, hf⟩ := DataW.trod_struct Try.underlying29 h
 rw [cellsOf29] at hl
 match xs, hlen, cs, hl with
 | [y0, y1, y2], _, [c0, c1, c2], _ =>
  have h0 := hf 0 _ rfl
  have h1 := hf 1 _ rfl
  have h2 := hf 2 _ rfl
  simp [cellsOf3] at h0
  simp [cellsOf3] at h1
  simp [cellsOf27] at h2
  obtain ⟨a0, e0, _, _⟩ := DataW.trod_int Try.underlying3 h0
  obtain ⟨a1, e1, _, _⟩ := DataW.trod_int Try.underlying3 h1
  obtain ⟨v, e2, R, hR⟩ := spans_open h2
  simp only [List.cons.injEq, and_true] at e0 e1 e2
  exact ⟨a0, a1, v, by rw [e0, e1, e2], R, hR⟩
set_option maxRecDepth 100000 in
theorem act_cells (h : DataW.trod enc Try.prog w 0 spare held fuel 31 cs = some x) : ∃ (a b : Int) (sv : Value) (p : ActP), cs = [.int .i64 a, .int .i64 b, sv, .int .u8 p.ticks] ∧ GoodA w sv p := by
 obtain ⟨xs, n, _, rfl, hl, hlen, hf⟩ := DataW.trod_struct Try.underlying31 h
 rw [cellsOf31] at hl
 match xs, hlen, cs, hl with
 | [y0, y1], _, [c0, c1, c2, c3], _ =>
  have h0 := hf 0 _ rfl
  have h1 := hf 1 _ rfl
  simp [cellsOf29] at h0
  simp [cellsOf5] at h1
  obtain ⟨a, b, sv, e0, R, r1, r2, r3⟩ := batch_cells h0
  obtain ⟨t, e1, _, hw⟩ := DataW.trod_int Try.underlying5 h1
  have ht := u8_bounds hw
  simp only [List.cons.injEq, and_true] at e0 e1
  obtain ⟨rfl, rfl, rfl⟩ := e0
  subst e1
  exact ⟨a, b, c2, ⟨R, t⟩, rfl, r1, r2, r3, ht.1, by have := ht.2; show t ≤ 255; omega⟩
theorem acts_open {a : Option Addr} {len cap : Nat} (h : DataW.trod enc Try.prog w 0 spare held fuel 22 [.slice a len cap] = some x) : ∃ A : List ActP, ReadsA w (.slice a len cap) A ∧ FitsA A := by
 rcases open_slice Try.underlying22 h with ⟨hcs, _⟩ | ⟨b, len, cap, m, n, D, Pl, hcs, _, hl, hm, hmm, _, hel⟩
 ·obtain ⟨rfl, rfl, rfl⟩ : a = none ∧ len = 0 ∧ cap = 0 := by simpa using hcs
  exact ⟨[], ⟨none, 0, rfl, .inl rfl⟩, ⟨by simp, fun y hy => (by cases hy), fun y hy => (by cases hy), fun y hy => (by cases hy)⟩⟩
 ·obtain ⟨rfl, rfl, rfl⟩ : a = some b ∧ _ = len ∧ _ = cap := by simpa using hcs
  have hlm : len ≤ m := by rw [hmm]; split <;> omega
  rw [cellsOf31] at hel
  obtain ⟨f, hf⟩ := choose_lt (n := len) (p := fun i (y : ActP) => ∃ (c d : Int) (sv : Value), w.cells? 0 (b.add (i * 4)) 4 = some [.int .i64 c, .int .i64 d, sv, .int .u8 y.ticks] ∧ GoodA w sv y) (fun i hi => by
   obtain ⟨cs', h1, h2⟩ := hel i (by omega)
   obtain ⟨c, d, sv, y, e, hb⟩ := act_cells h2
   exact ⟨y, c, d, sv, by rw [h1, e], hb⟩)
  refine ⟨(List.range len).map f, ⟨some b, cap, by simp, ?_⟩, ?_⟩
  ·by_cases h0 : len = 0
   ·left; subst h0; rfl
   ·right
    obtain ⟨c, d, sv, h1, _⟩ := hf 0 (by omega)
    obtain ⟨_, hg⟩ := cells_get h1
    have hspot : b.spot = none := by
     have := hg 0 (.int .i64 c) rfl
     have := World.cell?_spot this
     simpa [Addr.add] using this
    obtain ⟨bb, bo, bs⟩ := b
    simp at hspot; subst hspot
    refine ⟨bb, bo, rfl, fun i y hy => ?_⟩
    have hi : i < len := by have := (List.getElem?_eq_some_iff.1 hy).1; simpa using this
    have ey : y = f i := by simpa [hi] using hy.symm
    subst ey
    obtain ⟨c, d, sv, h1, g⟩ := hf i hi
    obtain ⟨_, hg⟩ := cells_get h1
    refine ⟨sv, ?_, g.1, ?_⟩
    ·have := hg 2 _ rfl
     rwa [add_mid, add_mid] at this
    ·have := hg 3 _ rfl
     rwa [add_mid, add_mid] at this
  ·have hall : ∀ y ∈ (List.range len).map f, ∃ sv, GoodA w sv y := fun y hy => by
    obtain ⟨i, hi, rfl⟩ := List.mem_map.1 hy
    obtain ⟨c, d, sv, _, g⟩ := hf i (by simpa using hi)
    exact ⟨sv, g⟩
   refine ⟨?_, fun y hy => ?_, fun y hy => ?_, fun y hy m hm => ?_⟩
   ·simp; unfold maxLen at *; omega
   ·obtain ⟨sv, g⟩ := hall y hy; exact g.2.2.2
   ·obtain ⟨sv, g⟩ := hall y hy; have := g.2.1; unfold maxLen at this; omega
   ·obtain ⟨sv, g⟩ := hall y hy; have := g.2.2.1 m hm; unfold maxLen at this; exact this
end
end Go.Proofs.Ytibakmchgppndaa
/- ModelTells, walked whole: at every input it returns true. -/
namespace Go.Proofs.Ytibakmchgppndaa
open Go.RowKit Go.MapKept Go.Instr Go.ChangeMaps

/-- What is asked. -/
structure AskP where
 tr : Int
 af : Int
 li : Int
 q : Qry
 later : Int
theorem below_of {a b c : World} (h : Kept (fun _ => False) a b) (k : Below b.heap.size b c) : Below a.heap.size a c := (h.below (fun _ _ f => f)).trans (k.mono h.size)
set_option maxHeartbeats 32000000 in
set_option maxRecDepth 100000 in
theorem modelTells_any (w : World) (v : Value) (A : List ActP) (x : AskP) (s1 : x.q.se.size ≤ 9223372036854775807) (s2 : x.q.ho.size ≤ 9223372036854775807) (l1 : 0 ≤ x.later) (l2 : x.later ≤ 255) (h : ReadsA w v A) (hf : FitsA A) :
  Calls Try.prog 4 #[v, .agg #[.int .i64 x.tr, .int .i64 x.af, .int .i64 x.li, .string x.q.se, .string x.q.ho, .int .i64 x.q.fr, .int .i64 x.q.tt, .int .i64 x.q.li, .int .u8 x.later]] w fun e w' => e = .returned (.bool true) ∧ Below w.heap.size w w' := by
 obtain ⟨W1, hW1⟩ : ∃ W, w.alloc (.cells #[.int .i64 x.tr, .int .i64 x.af, .int .i64 x.li, .string x.q.se, .string x.q.ho, .int .i64 x.q.fr, .int .i64 x.q.tt, .int .i64 x.q.li, .int .u8 x.later] 42) = W := ⟨_, rfl⟩
 have k1 : Kept (fun _ => False) w W1 := by rw [← hW1]; exact (Kept.refl _ w).alloc _
 obtain ⟨xb, hxb⟩ : ∃ b, w.heap.size = b := ⟨_, rfl⟩
 have X0 := Lib.hid (show ∀ W, Kept (fun _ => False) W1 W → W.cell? ⟨xb, 0, none⟩ = some (.int .i64 x.tr) ∧ W.cell? ⟨xb, 1, none⟩ = some (.int .i64 x.af) ∧ W.cell? ⟨xb, 2, none⟩ = some (.int .i64 x.li) ∧ W.cell? ⟨xb, 3, none⟩ = some (.string x.q.se) ∧ W.cell? ⟨xb, 4, none⟩ = some (.string x.q.ho) ∧ W.cell? ⟨xb, 5, none⟩ = some (.int .i64 x.q.fr) ∧ W.cell? ⟨xb, 6, none⟩ = some (.int .i64 x.q.tt) ∧ W.cell? ⟨xb, 7, none⟩ = some (.int .i64 x.q.li) ∧ W.cell? ⟨xb, 8, none⟩ = some (.int .u8 x.later) from fun W K => ⟨K.cell (by rw [← hW1, ← hxb]; simp) (fun f => f), K.cell (by rw [← hW1, ← hxb]; simp) (fun f => f), K.cell (by rw [← hW1, ← hxb]; simp) (fun f => f), K.cell (by rw [← hW1, ← hxb]; simp) (fun f => f), K.cell (by rw [← hW1, ← hxb]; simp) (fun f => f), K.cell (by rw [← hW1, ← hxb]; simp) (fun f => f), K.cell (by rw [← hW1, ← hxb]; simp) (fun f => f), K.cell (by rw [← hW1, ← hxb]; simp) (fun f => f), K.cell (by rw [← hW1, ← hxb]; simp) (fun f => f)⟩)
 have K1 := Lib.hid k1
 have BH := Lib.hid (beyondA_all 30 (by omega) (h.keptF k1) hf)
 have HF := Lib.hid hf
 obtain ⟨ao, cap, rfl, h⟩ := h
 have HR := Lib.hid h
 clear hf h k1
 go_enter Try.func4, Try.ntmps4
 go_wp2_with fail
 refine BH.out.mono ?_
 rintro e w1 ⟨rfl | ⟨rfl, hlen, hmany⟩, rfl⟩
 ·clear hW1 hxb
  go_wp2_with fail
  refine (lives_any _).mono ?_
  rintro e w2 ⟨rfl, k2⟩
  have K2 := Lib.hid (below_of K1.out k2); clear k2
  go_wp2
  go_ret
  exact ⟨rfl, K2.out⟩
 ·clear hW1 hxb
  have MANY := Lib.hid hmany
  have LEN := Lib.hid hlen
  clear hmany
  obtain ⟨q0, q1, q2, q3, q4, q5, q6, q7, q8⟩ := X0.out _ (Kept.refl _ W1)
  by_cases c1 : 100 < (x.q.se.size : Int)
  ·go_wp2_with fail
   refine (lives_any _).mono ?_
   rintro e w2 ⟨rfl, k2⟩
   have K2 := Lib.hid (below_of K1.out k2); clear k2
   go_wp2
   go_ret
   exact ⟨rfl, K2.out⟩
  ·by_cases c2 : 100 < (x.q.ho.size : Int)
   ·go_wp2_with fail
    refine (lives_any _).mono ?_
    rintro e w2 ⟨rfl, k2⟩
    have K2 := Lib.hid (below_of K1.out k2); clear k2
    go_wp2
    go_ret
    exact ⟨rfl, K2.out⟩
   ·go_wp2_with fail
    refine (new_any _).mono ?_
    rintro e w2 ⟨rfl, k2, c3, mp3⟩
    obtain ⟨b, hb⟩ : ∃ b, W1.heap.size = b := ⟨_, rfl⟩
    obtain ⟨p, hp⟩ : ∃ p, W1.heap.size + 1 = p := ⟨_, rfl⟩
    have M0 := Lib.hid (show ModelAt w2 p b [] from by rw [← hp, ← hb]; exact ⟨c3, mp3, fun m hm => by cases hm⟩)
    have K2 := Lib.hid (keptFF K1.out k2)
    have KX2 := Lib.hid k2
    have HB := Lib.hid (show w.heap.size ≤ b from by rw [← hb]; exact K1.out.size)
    have BP := Lib.hid (show b < p by omega)
    have XB := Lib.hid (show xb < b from by rw [← hb]; exact World.block_lt_of_cell? _ _ q0)
    rw [hp]
    clear k2 c3 mp3 hb hp q0 q1 q2 q3 q4 q5 q6 q7 q8
    go_wp2_with fail
    refine (rnew_all _).mono ?_
    rintro e w3 ⟨rfl, k3, hr3⟩
    obtain ⟨mp, hmp⟩ : ∃ q, w2.heap.size = q := ⟨_, rfl⟩
    rw [hmp] at hr3 ⊢
    have PM := Lib.hid (show p < mp from by rw [← hmp]; exact World.block_lt_of_cell? _ _ M0.out.cell)
    have BM := Lib.hid (show b < mp from by have h1 := PM.out; have h2 := BP.out; omega)
    have M3 := Lib.hid (M0.out.keptF k3)
    have RF3 := Lib.hid hr3
    have K3 := Lib.hid (keptFF K2.out k3)
    have hx3 := X0.out w3 (keptFF KX2.out k3)
    have nx : ¬ (xb = b ∨ mp ≤ xb) := by have h1 := XB.out; have h2 := BM.out; omega
    have X3 := Lib.hid (show ∀ W, Kept (fun k => k = b ∨ mp ≤ k) w3 W → W.cell? ⟨xb, 0, none⟩ = some (.int .i64 x.tr) ∧ W.cell? ⟨xb, 1, none⟩ = some (.int .i64 x.af) ∧ W.cell? ⟨xb, 2, none⟩ = some (.int .i64 x.li) ∧ W.cell? ⟨xb, 3, none⟩ = some (.string x.q.se) ∧ W.cell? ⟨xb, 4, none⟩ = some (.string x.q.ho) ∧ W.cell? ⟨xb, 5, none⟩ = some (.int .i64 x.q.fr) ∧ W.cell? ⟨xb, 6, none⟩ = some (.int .i64 x.q.tt) ∧ W.cell? ⟨xb, 7, none⟩ = some (.int .i64 x.q.li) ∧ W.cell? ⟨xb, 8, none⟩ = some (.int .u8 x.later) from fun W K => ⟨K.cell hx3.1 nx, K.cell hx3.2.1 nx, K.cell hx3.2.2.1 nx, K.cell hx3.2.2.2.1 nx, K.cell hx3.2.2.2.2.1 nx, K.cell hx3.2.2.2.2.2.1 nx, K.cell hx3.2.2.2.2.2.2.1 nx, K.cell hx3.2.2.2.2.2.2.2.1 nx, K.cell hx3.2.2.2.2.2.2.2.2 nx⟩)
    clear hx3 nx
    clear k3 hr3 hmp
    go_wp2
    go_loopg [7, 8] A.length (fun gh s t wr => ∃ (i : Nat) (now : Int) (M L : List Spn), i + gh = A.length ∧ t = .int .i64 i ∧ s = .int .i64 now ∧ 0 ≤ now ∧ now ≤ 255 * i ∧ Alike now M L ∧ M.length ≤ 20 * i ∧ L.length ≤ 20 * i ∧ ModelAt wr p b M ∧ RefAt wr mp L ∧ Kept (fun _ => False) w wr ∧ Kept (fun k => k = b ∨ mp ≤ k) w3 wr)
    case atStart => exact ⟨0, 0, [], [], by omega, rfl, rfl, by omega, by omega, Alike.nil 0, by simp, by simp, M3.out, RF3.out, K3.out, Kept.refl _ _⟩
    case round =>
     obtain ⟨i, now, M, L, ji, rfl, rfl, n1, n2, hA, hML, hLL, hmod, hrf, kw, kx⟩ := hrel
     have JI := Lib.hid ji; have AL0 := Lib.hid hA; have ML := Lib.hid hML; have LL := Lib.hid hLL; have MO := Lib.hid hmod; have RF := Lib.hid hrf; have KW := Lib.hid kw; have KX := Lib.hid kx
     clear ji hA hML hLL hmod hrf kw kx
     have i3 : i ≤ 30 := by have := JI.out; have := LEN.out; omega
     by_cases hlt : i < A.length
     ·obtain ⟨g, o, rfl, hc⟩ : ∃ g o, ao = some ⟨g, o, none⟩ ∧ ∀ i a, A[i]? = some a → ActAt w g (o + i * 4) a := by
       rcases HR.out with h0 | h
       ·rw [h0] at hlt; simp at hlt
       ·exact h
      obtain ⟨a, ha⟩ : ∃ a, A[i]? = some a := ⟨_, List.getElem?_eq_getElem hlt⟩
      have hmem := List.mem_of_getElem? ha
      obtain ⟨sv, d2, ds, d3⟩ := hc i a ha
      obtain ⟨sa, sc, esv, _⟩ := id ds
      obtain ⟨sn, hsn⟩ : ∃ n, a.spans.length = n := ⟨_, rfl⟩
      rw [hsn] at esv
      subst esv
      have CELL := Lib.hid (fun W (K : Kept (fun _ => False) w W) => K.cell d2 (fun f => f))
      have RSV := Lib.hid (fun W (K : Kept (fun _ => False) w W) => ds.keptF K)
      have c2 := CELL.out wr KW.out
      have c3 := KW.out.cell d3 (fun f => f)
      have rs := Lib.hid (RSV.out wr KW.out)
      obtain ⟨tk, htk⟩ : ∃ t, a.ticks = t := ⟨_, rfl⟩
      rw [htk] at c3
      have t1 : 0 ≤ tk ∧ tk ≤ 255 := by rw [← htk]; exact HF.out.ticks a hmem
      obtain ⟨t1, t2⟩ := t1
      have i1 : (0 : Int) ≤ (i : Int) := by omega
      have i2 : (i : Int) < (A.length : Int) := by omega
      have MA := Lib.hid (MANY.out a hmem)
      have FT := Lib.hid (HF.out.fit a hmem)
      obtain ⟨aS, haS⟩ : ∃ S, a.spans = S := ⟨_, rfl⟩
      rw [haS] at RSV rs MA FT
      have AL := Lib.hid (AL0.out.later (later := now + tk) (by omega))
      have TAKE := Lib.hid (AL.out.take aS)
      obtain ⟨M2, hM2⟩ : ∃ X, (takeF (now + tk) aS M []).1 = X := ⟨_, rfl⟩
      obtain ⟨cn, hcn⟩ : ∃ X, (takeF (now + tk) aS M []).2 = X := ⟨_, rfl⟩
      obtain ⟨TR, hTR⟩ : ∃ X, takeR (now + tk) (rowR (now + tk) L) aS [] = X := ⟨_, rfl⟩
      obtain ⟨L2, hL2⟩ : ∃ X, L ++ TR = X := ⟨_, rfl⟩
      have ML2 := Lib.hid (show M2.length ≤ 20 * (i + 1) from by rw [← hM2]; have e1 := len_take (now + tk) aS M []; have e2 := ML.out; have e3 := MA.out; omega)
      have LL2 := Lib.hid (show L2.length ≤ 20 * (i + 1) from by rw [← hL2, ← hTR, List.length_append]; have e1 := takeR_len (now + tk) (rowR (now + tk) L) aS []; have e2 := LL.out; have e3 := MA.out; simp at e1; omega)
      have TK9 := Lib.hid (fun (W : World) (hm : ModelAt W p b M) (hr : ReadsS W (.slice sa sn sc) aS) => take_all (now + tk) (by omega) (by omega) hm AL.out.held hr (by have := MA.out; omega) FT.out)
      have TK14 := Lib.hid (fun (W : World) (hm : RefAt W mp L) (hr : ReadsS W (.slice sa sn sc) aS) => rmtake_all (now + tk) (by omega) (by omega) hm hr AL.out.may FT.out (by have := LL.out; omega) (by have := MA.out; omega))
      rw [hM2, hcn] at TK9
      rw [hTR, hL2] at TK14
      rw [hM2, hTR, hL2, hcn] at TAKE
      have AL2 := Lib.hid TAKE.out.2
      have CN := TAKE.out.1
      have ecn : ((cn : Int) != (TR.length : Int)) = false := by rw [CN]; simp
      clear hc ha hmem d2 ds d3 hsn htk haS hM2 hcn hTR hL2 CN
      go_wp2
      refine wp_region_held_drew (S := (fun w' => w'.cell? ⟨g, o + i * 4 + 2, none⟩ = some (.slice sa sn sc))) (by kernel_rfl) ?_ (fun hHeld => ?_)
      ·exact c2
      obtain ⟨wd, hwd⟩ : ∃ W, wr.drew = W := ⟨_, rfl⟩
      have kd : Kept (fun _ => False) wr wd := by rw [← hwd]; exact (Kept.refl _ _).drew
      rw [hwd] at hHeld ⊢
      have KD := Lib.hid (keptFF KW.out kd)
      have KXD := Lib.hid (KX.out.trans kd (fun _ _ h => h) (fun _ _ f => f.elim) : Kept (fun k => k = b ∨ mp ≤ k) w3 wd)
      have MOD := Lib.hid (MO.out.keptF kd)
      have RFD := Lib.hid (RF.out.keptF kd)
      have RSD := Lib.hid (rs.out.keptF kd)
      clear hwd kd
      refine tW 0 opAt0 hHeld ?_
      (try simp only [Act.put]); try simp only [z2, List.set]
      refine tW 1 opAt1 hHeld ?_
      (try simp only [Act.put]); try simp only [z2, List.set]
      refine tW 2 opAt2 hHeld ?_
      (try simp only [Act.put]); try simp only [z2, List.set]
      refine tW 3 opAt3 hHeld ?_
      (try simp only [Act.put]); try simp only [z2, List.set]
      refine tW 4 opAt4 hHeld ?_
      (try simp only [Act.put]); try simp only [z2, List.set]
      refine tW 5 opAt5 hHeld ?_
      (try simp only [Act.put]); try simp only [z2, List.set]
      refine tW 6 opAt6 hHeld ?_
      (try simp only [Act.put]); try simp only [z2, List.set]
      refine tW 7 opAt7 hHeld ?_
      (try simp only [Act.put]); try simp only [z2, List.set]
      refine tW 9 opAt9 hHeld ?_
      (try simp only [Act.put]); try simp only [z2, List.set]
      refine tW 10 opAt10 hHeld ?_
      (try simp only [Act.put]); try simp only [z2, List.set]
      refine tW 11 opAt11 hHeld ?_
      (try simp only [Act.put]); try simp only [z2, List.set]
      refine tW 12 opAt12 hHeld ?_
      (try simp only [Act.put]); try simp only [z2, List.set]
      refine tW 13 opAt13 hHeld ?_
      (try simp only [Act.put]); try simp only [z2, List.set]
      refine tW 14 opAt14 hHeld ?_
      (try simp only [Act.put]); try simp only [z2, List.set]
      refine tW 15 opAt15 hHeld ?_
      (try simp only [Act.put]); try simp only [z2, List.set]
      refine tW 16 opAt16 hHeld ?_
      (try simp only [Act.put]); try simp only [z2, List.set]
      refine wpAnyH_ready (rs := [8]) (by kernel_rfl) (by simp) ?_
      refine AllReadyH.cons opAt8 (fun K hK => ?_) AllReadyH.nil
      go_simp
      go_at_call 9
      refine (TK9.out wd MOD.out RSD.out).mono ?_
      rintro e w2 ⟨rfl, k2, mo2⟩
      have KX2' := Lib.hid (KXD.out.trans k2 (fun _ _ h => h) (fun _ _ h => .inl h) : Kept (fun k => k = b ∨ mp ≤ k) w3 w2)
      have K2 := Lib.hid (kept_new KD.out k2 HB.out)
      have MO2 := Lib.hid mo2
      have RF2 := Lib.hid (RFD.out.kept k2 (fun k e => by have := BM.out; omega))
      clear k2 mo2
      dsimp only
      refine hK.out _ _ ?_ (fun hHeld => ?_)
      ·exact CELL.out w2 K2.out
      clear hK K
      (try simp only [Act.put]); try simp only [z2, List.set]
      refine wpAnyH_ready (rs := [17]) (by kernel_rfl) (by simp) ?_
      refine AllReadyH.cons opAt17 (fun K hK => ?_) AllReadyH.nil
      go_simp
      go_at_call 14
      refine (TK14.out w2 RF2.out (RSV.out w2 K2.out)).mono ?_
      rintro e w3r ⟨rfl, rf3, k3⟩
      have KX3' := Lib.hid (KX2'.out.trans k3 (fun _ _ h => h) (fun _ _ h => .inr h) : Kept (fun k => k = b ∨ mp ≤ k) w3 w3r)
      have K3 := Lib.hid (K2.out.trans k3 (fun _ _ f => f) (fun q hq e => by have h1 := HB.out; have h2 := BM.out; omega) : Kept (fun _ => False) w w3r)
      have MO3 := Lib.hid (MO2.out.kept k3 (fun e => by have h2 := PM.out; omega) (fun e => by have h2 := BM.out; omega))
      have RF3 := Lib.hid rf3
      clear rf3 k3
      dsimp only
      refine hK.out _ _ ?_ (fun hHeld => ?_)
      ·exact CELL.out w3r K3.out
      clear hK K
      (try simp only [Act.put]); try simp only [z2, List.set]
      refine tW 18 opAt18 hHeld ?_
      (try simp only [Act.put]); try simp only [z2, List.set]
      refine tW 19 opAt19 hHeld ?_
      (try simp only [Act.put]); try simp only [z2, List.set]
      refine tW 20 opAt20 hHeld ?_
      (try simp only [Act.put]); try simp only [z2, List.set]
      refine tW 21 opAt21 hHeld ?_
      (try simp only [Act.put]); try simp only [z2, List.set]
      refine tW 23 opAt23 hHeld ?_
      (try simp only [Act.put]); try simp only [z2, List.set]
      refine tW 24 opAt24 hHeld ?_
      (try simp only [Act.put]); try simp only [z2, List.set]
      refine wpAnyH_ready (rs := [22]) (by kernel_rfl) (by simp) ?_
      refine AllReadyH.cons opAt22 (fun K hK => ?_) AllReadyH.nil
      go_simp
      go_at_call 10
      refine (spans_row (now + tk) (by omega) (by omega) MO3.out (by have := ML2.out; omega)).mono ?_
      rintro e w4 ⟨k4, v4, R4, rfl, o4, p4, s4⟩
      have KX4' := Lib.hid (KX3'.out.trans k4 (fun _ _ h => h) (fun _ _ f => f.elim) : Kept (fun k => k = b ∨ mp ≤ k) w3 w4)
      have K4 := Lib.hid (keptFF K3.out k4)
      have RE := AL2.out.row p4 s4
      subst RE
      have RS4 := Lib.hid (ReadsS.of_row o4)
      have MO4 := Lib.hid (MO3.out.keptF k4)
      have RF4 := Lib.hid (RF3.out.keptF k4)
      clear k4 p4 s4 o4
      dsimp only
      refine hK.out _ _ ?_ (fun hHeld => ?_)
      ·exact CELL.out w4 K4.out
      clear hK K
      (try simp only [Act.put]); try simp only [z2, List.set]
      obtain ⟨⟨vL, hcL, hoL⟩, _⟩ := id RF4.out
      refine wpAnyH_ready (rs := [25]) (by kernel_rfl) (by simp) ?_
      refine AllReadyH.cons opAt25 (fun K hK => ?_) AllReadyH.nil
      go_simp
      go_at_call 15
      refine (r_all (now + tk) (by omega) (by omega) hcL hoL AL2.out.may (by have := LL2.out; omega)).mono ?_
      rintro e w5 ⟨v5, rfl, o5, k5⟩
      have KX5' := Lib.hid (KX4'.out.trans k5 (fun _ _ h => h) (fun _ _ f => f.elim) : Kept (fun k => k = b ∨ mp ≤ k) w3 w5)
      have K5 := Lib.hid (keptFF K4.out k5)
      have RS5 := Lib.hid (ReadsS.of_row o5)
      have RS45 := Lib.hid (RS4.out.keptF k5)
      have MO5 := Lib.hid (MO4.out.keptF k5)
      have RF5 := Lib.hid (RF4.out.keptF k5)
      clear k5 o5 hcL hoL
      dsimp only
      refine hK.out _ _ ?_ (fun hHeld => ?_)
      ·exact CELL.out w5 K5.out
      clear hK K
      (try simp only [Act.put]); try simp only [z2, List.set]
      refine wpAnyH_ready (rs := [26]) (by kernel_rfl) (by simp) ?_
      refine AllReadyH.cons opAt26 (fun K hK => ?_) AllReadyH.nil
      go_simp
      go_at_call 11
      refine (same_refl _ _ _ (rowR (now + tk) L2) RS45.out RS5.out (by have := row_len (now + tk) L2; have := LL2.out; omega)).mono ?_
      rintro e w6 ⟨rfl, k6⟩
      have KX6' := Lib.hid (KX5'.out.trans k6 (fun _ _ h => h) (fun _ _ f => f.elim) : Kept (fun k => k = b ∨ mp ≤ k) w3 w6)
      have K6 := Lib.hid (keptFF K5.out k6)
      have MO6 := Lib.hid (MO5.out.keptF k6)
      have RF6 := Lib.hid (RF5.out.keptF k6)
      clear k6
      dsimp only
      refine hK.out _ _ ?_ (fun hHeld => ?_)
      ·exact CELL.out w6 K6.out
      clear hK K
      (try simp only [Act.put]); try simp only [z2, List.set]
      refine tW 27 opAt27 hHeld ?_
      (try simp only [Act.put]); try simp only [z2, List.set]
      refine tW 28 opAt28 hHeld ?_
      (try simp only [Act.put]); try simp only [z2, List.set]
      refine wpAnyH_done (by kernel_rfl) ?_ _
      clear hHeld
      go_wp2
      go_roundg (A.length - i - 1)
      case measure => have := JI.out; omega
      case rel => exact ⟨i + 1, now + tk, M2, L2, by have := JI.out; omega, by go_num, by go_num, by omega, by omega, AL2.out, ML2.out, LL2.out, MO6.out, RF6.out, K6.out, KX6'.out⟩
     ·have i1 : ¬ (i : Int) < (A.length : Int) := by omega
      have hM : M.length ≤ 1000 := by have := ML.out; omega
      have hL : L.length ≤ 1000 := by have := LL.out; omega
      have n3 : now ≤ 7650 := by omega
      obtain ⟨lt, hlt'⟩ : ∃ t, x.later = t := ⟨_, rfl⟩
      have HLT := Lib.hid hlt'
      have AL := Lib.hid (AL0.out.later (later := now + lt) (by omega))
      have RRL := Lib.hid (show (rowR (now + lt) L).length ≤ 1000 from Nat.le_trans (row_len _ _) hL)
      obtain ⟨tn, htn⟩ : ∃ t, now + lt = t := ⟨_, rfl⟩
      have t1 : 0 ≤ tn := by omega
      have t2 : tn ≤ 4294967296 := by omega
      rw [htn] at AL RRL
      have HTN := Lib.hid htn
      clear n1 n2 n3 hlt i3
      obtain ⟨q0, q1, q2, q3, q4, q5, q6, q7, q8⟩ := X3.out wr KX.out
      rw [hlt'] at q8
      go_wp2_with fail
      clear hlt' htn
      refine (get_m x.tr t1 t2 MO.out AL.out hM).mono ?_
      rintro e w10 ⟨v1, rfl, hr1, k⟩
      clear q0 q1 q2 q3 q4 q5 q6 q7 q8
      replace MO := Lib.hid (MO.out.keptF k)
      replace RF := Lib.hid (RF.out.keptF k)
      replace KW := Lib.hid (keptFF KW.out k)
      replace KX := Lib.hid (KX.out.trans k (fun _ _ h => h) (fun _ _ f => f.elim) : Kept (fun k => k = b ∨ mp ≤ k) w3 w10)
      obtain ⟨a1, c1, ev1, _⟩ := id hr1
      obtain ⟨n1, hn1⟩ : ∃ n, (getL x.tr (rowR tn L)).length = n := ⟨_, rfl⟩
      rw [hn1] at ev1
      subst ev1
      have V1 := Lib.hid hr1
      clear hr1 hn1
      clear k
      obtain ⟨q0, q1, q2, q3, q4, q5, q6, q7, q8⟩ := X3.out w10 KX.out
      have qo := fun o => X3.out (w10.alloc o) (KX.out.alloc o)
      have qo0 := fun o => (qo o).1
      have qo1 := fun o => (qo o).2.1
      have qo2 := fun o => (qo o).2.2.1
      have qo3 := fun o => (qo o).2.2.2.1
      have qo4 := fun o => (qo o).2.2.2.2.1
      have qo5 := fun o => (qo o).2.2.2.2.2.1
      have qo6 := fun o => (qo o).2.2.2.2.2.2.1
      have qo7 := fun o => (qo o).2.2.2.2.2.2.2.1
      have qo8 := fun o => (qo o).2.2.2.2.2.2.2.2
      clear qo
      go_wp2_with fail
      clear q0 q1 q2 q3 q4 q5 q6 q7 q8 qo0 qo1 qo2 qo3 qo4 qo5 qo6 qo7 qo8
      obtain ⟨w11, hw11⟩ : ∃ W, w10.alloc (.cells #[.int .i64 (getT x.tr), .slice a1 n1 c1] 46) = W := ⟨_, rfl⟩
      have kb : Kept (fun _ => False) w10 w11 := by rw [← hw11]; exact (Kept.refl _ _).alloc _
      obtain ⟨g1, hg1⟩ : ∃ q, w10.heap.size = q := ⟨_, rfl⟩
      have C10 := Lib.hid (show w11.cell? ⟨g1, 0, none⟩ = some (.int .i64 (getT x.tr)) from by rw [← hw11, ← hg1]; simp)
      have C11 := Lib.hid (show w11.cell? ⟨g1, 1, none⟩ = some (.slice a1 n1 c1) from by rw [← hw11, ← hg1]; simp)
      rw [hw11, hg1]
      clear hw11 hg1
      replace MO := Lib.hid (MO.out.keptF kb)
      replace RF := Lib.hid (RF.out.keptF kb)
      replace KW := Lib.hid (keptFF KW.out kb)
      replace KX := Lib.hid (KX.out.trans kb (fun _ _ h => h) (fun _ _ f => f.elim) : Kept (fun k => k = b ∨ mp ≤ k) w3 w11)
      replace V1 := Lib.hid (V1.out.keptF kb)
      clear kb
      refine (get_r x.tr t1 t2 RF.out AL.out hL).mono ?_
      rintro e w12 ⟨v2, rfl, hr2, k⟩
      replace MO := Lib.hid (MO.out.keptF k)
      replace RF := Lib.hid (RF.out.keptF k)
      replace KW := Lib.hid (keptFF KW.out k)
      replace KX := Lib.hid (KX.out.trans k (fun _ _ h => h) (fun _ _ f => f.elim) : Kept (fun k => k = b ∨ mp ≤ k) w3 w12)
      replace V1 := Lib.hid (V1.out.keptF k)
      replace C10 := Lib.hid (k.cell C10.out (fun f => f))
      replace C11 := Lib.hid (k.cell C11.out (fun f => f))
      obtain ⟨a2, c2, ev2, _⟩ := id hr2
      obtain ⟨n2, hn2⟩ : ∃ n, (getL x.tr (rowR tn L)).length = n := ⟨_, rfl⟩
      rw [hn2] at ev2
      subst ev2
      have V2 := Lib.hid hr2
      clear hr2 hn2
      clear k
      obtain ⟨q0, q1, q2, q3, q4, q5, q6, q7, q8⟩ := X3.out w12 KX.out
      have qo := fun o => X3.out (w12.alloc o) (KX.out.alloc o)
      have qo0 := fun o => (qo o).1
      have qo1 := fun o => (qo o).2.1
      have qo2 := fun o => (qo o).2.2.1
      have qo3 := fun o => (qo o).2.2.2.1
      have qo4 := fun o => (qo o).2.2.2.2.1
      have qo5 := fun o => (qo o).2.2.2.2.2.1
      have qo6 := fun o => (qo o).2.2.2.2.2.2.1
      have qo7 := fun o => (qo o).2.2.2.2.2.2.2.1
      have qo8 := fun o => (qo o).2.2.2.2.2.2.2.2
      clear qo
      go_wp2_with fail
      clear q0 q1 q2 q3 q4 q5 q6 q7 q8 qo0 qo1 qo2 qo3 qo4 qo5 qo6 qo7 qo8
      obtain ⟨w13, hw13⟩ : ∃ W, w12.alloc (.cells #[.int .i64 (getT x.tr), .slice a2 n2 c2] 46) = W := ⟨_, rfl⟩
      have kb : Kept (fun _ => False) w12 w13 := by rw [← hw13]; exact (Kept.refl _ _).alloc _
      obtain ⟨g2, hg2⟩ : ∃ q, w12.heap.size = q := ⟨_, rfl⟩
      have C20 := Lib.hid (show w13.cell? ⟨g2, 0, none⟩ = some (.int .i64 (getT x.tr)) from by rw [← hw13, ← hg2]; simp)
      have C21 := Lib.hid (show w13.cell? ⟨g2, 1, none⟩ = some (.slice a2 n2 c2) from by rw [← hw13, ← hg2]; simp)
      rw [hw13, hg2]
      clear hw13 hg2
      replace MO := Lib.hid (MO.out.keptF kb)
      replace RF := Lib.hid (RF.out.keptF kb)
      replace KW := Lib.hid (keptFF KW.out kb)
      replace KX := Lib.hid (KX.out.trans kb (fun _ _ h => h) (fun _ _ f => f.elim) : Kept (fun k => k = b ∨ mp ≤ k) w3 w13)
      replace V1 := Lib.hid (V1.out.keptF kb)
      replace C10 := Lib.hid (kb.cell C10.out (fun f => f))
      replace C11 := Lib.hid (kb.cell C11.out (fun f => f))
      replace V2 := Lib.hid (V2.out.keptF kb)
      clear kb
      refine (scan_m x.af x.li t1 t2 MO.out AL.out hM).mono ?_
      rintro e w14 ⟨v3, rfl, hr3, k⟩
      replace MO := Lib.hid (MO.out.keptF k)
      replace RF := Lib.hid (RF.out.keptF k)
      replace KW := Lib.hid (keptFF KW.out k)
      replace KX := Lib.hid (KX.out.trans k (fun _ _ h => h) (fun _ _ f => f.elim) : Kept (fun k => k = b ∨ mp ≤ k) w3 w14)
      replace V1 := Lib.hid (V1.out.keptF k)
      replace C10 := Lib.hid (k.cell C10.out (fun f => f))
      replace C11 := Lib.hid (k.cell C11.out (fun f => f))
      replace V2 := Lib.hid (V2.out.keptF k)
      replace C20 := Lib.hid (k.cell C20.out (fun f => f))
      replace C21 := Lib.hid (k.cell C21.out (fun f => f))
      obtain ⟨a3, c3, ev3, _⟩ := id hr3
      obtain ⟨n3, hn3⟩ : ∃ n, (scL x.af x.li (rowR tn L)).length = n := ⟨_, rfl⟩
      rw [hn3] at ev3
      subst ev3
      have V3 := Lib.hid hr3
      clear hr3 hn3
      clear k
      obtain ⟨q0, q1, q2, q3, q4, q5, q6, q7, q8⟩ := X3.out w14 KX.out
      have qo := fun o => X3.out (w14.alloc o) (KX.out.alloc o)
      have qo0 := fun o => (qo o).1
      have qo1 := fun o => (qo o).2.1
      have qo2 := fun o => (qo o).2.2.1
      have qo3 := fun o => (qo o).2.2.2.1
      have qo4 := fun o => (qo o).2.2.2.2.1
      have qo5 := fun o => (qo o).2.2.2.2.2.1
      have qo6 := fun o => (qo o).2.2.2.2.2.2.1
      have qo7 := fun o => (qo o).2.2.2.2.2.2.2.1
      have qo8 := fun o => (qo o).2.2.2.2.2.2.2.2
      clear qo
      go_wp2_with fail
      clear q0 q1 q2 q3 q4 q5 q6 q7 q8 qo0 qo1 qo2 qo3 qo4 qo5 qo6 qo7 qo8
      obtain ⟨w15, hw15⟩ : ∃ W, w14.alloc (.cells #[.slice a3 n3 c3, .int .i64 (scN x.af x.li (rowR tn L)), .bool (scM x.af x.li (rowR tn L))] 52) = W := ⟨_, rfl⟩
      have kb : Kept (fun _ => False) w14 w15 := by rw [← hw15]; exact (Kept.refl _ _).alloc _
      obtain ⟨g3, hg3⟩ : ∃ q, w14.heap.size = q := ⟨_, rfl⟩
      have C30 := Lib.hid (show w15.cell? ⟨g3, 0, none⟩ = some (.slice a3 n3 c3) from by rw [← hw15, ← hg3]; simp)
      have C31 := Lib.hid (show w15.cell? ⟨g3, 1, none⟩ = some (.int .i64 (scN x.af x.li (rowR tn L))) from by rw [← hw15, ← hg3]; simp)
      have C32 := Lib.hid (show w15.cell? ⟨g3, 2, none⟩ = some (.bool (scM x.af x.li (rowR tn L))) from by rw [← hw15, ← hg3]; simp)
      rw [hw15, hg3]
      clear hw15 hg3
      replace MO := Lib.hid (MO.out.keptF kb)
      replace RF := Lib.hid (RF.out.keptF kb)
      replace KW := Lib.hid (keptFF KW.out kb)
      replace KX := Lib.hid (KX.out.trans kb (fun _ _ h => h) (fun _ _ f => f.elim) : Kept (fun k => k = b ∨ mp ≤ k) w3 w15)
      replace V1 := Lib.hid (V1.out.keptF kb)
      replace C10 := Lib.hid (kb.cell C10.out (fun f => f))
      replace C11 := Lib.hid (kb.cell C11.out (fun f => f))
      replace V2 := Lib.hid (V2.out.keptF kb)
      replace C20 := Lib.hid (kb.cell C20.out (fun f => f))
      replace C21 := Lib.hid (kb.cell C21.out (fun f => f))
      replace V3 := Lib.hid (V3.out.keptF kb)
      clear kb
      refine (scan_r x.af x.li t1 t2 RF.out AL.out hL).mono ?_
      rintro e w16 ⟨v4, rfl, hr4, k⟩
      replace MO := Lib.hid (MO.out.keptF k)
      replace RF := Lib.hid (RF.out.keptF k)
      replace KW := Lib.hid (keptFF KW.out k)
      replace KX := Lib.hid (KX.out.trans k (fun _ _ h => h) (fun _ _ f => f.elim) : Kept (fun k => k = b ∨ mp ≤ k) w3 w16)
      replace V1 := Lib.hid (V1.out.keptF k)
      replace C10 := Lib.hid (k.cell C10.out (fun f => f))
      replace C11 := Lib.hid (k.cell C11.out (fun f => f))
      replace V2 := Lib.hid (V2.out.keptF k)
      replace C20 := Lib.hid (k.cell C20.out (fun f => f))
      replace C21 := Lib.hid (k.cell C21.out (fun f => f))
      replace V3 := Lib.hid (V3.out.keptF k)
      replace C30 := Lib.hid (k.cell C30.out (fun f => f))
      replace C31 := Lib.hid (k.cell C31.out (fun f => f))
      replace C32 := Lib.hid (k.cell C32.out (fun f => f))
      obtain ⟨a4, c4, ev4, _⟩ := id hr4
      obtain ⟨n4, hn4⟩ : ∃ n, (scL x.af x.li (rowR tn L)).length = n := ⟨_, rfl⟩
      rw [hn4] at ev4
      subst ev4
      have V4 := Lib.hid hr4
      clear hr4 hn4
      clear k
      obtain ⟨q0, q1, q2, q3, q4, q5, q6, q7, q8⟩ := X3.out w16 KX.out
      have qo := fun o => X3.out (w16.alloc o) (KX.out.alloc o)
      have qo0 := fun o => (qo o).1
      have qo1 := fun o => (qo o).2.1
      have qo2 := fun o => (qo o).2.2.1
      have qo3 := fun o => (qo o).2.2.2.1
      have qo4 := fun o => (qo o).2.2.2.2.1
      have qo5 := fun o => (qo o).2.2.2.2.2.1
      have qo6 := fun o => (qo o).2.2.2.2.2.2.1
      have qo7 := fun o => (qo o).2.2.2.2.2.2.2.1
      have qo8 := fun o => (qo o).2.2.2.2.2.2.2.2
      clear qo
      go_wp2_with fail
      clear q0 q1 q2 q3 q4 q5 q6 q7 q8 qo0 qo1 qo2 qo3 qo4 qo5 qo6 qo7 qo8
      obtain ⟨w17, hw17⟩ : ∃ W, w16.alloc (.cells #[.slice a4 n4 c4, .int .i64 (scN x.af x.li (rowR tn L)), .bool (scM x.af x.li (rowR tn L))] 52) = W := ⟨_, rfl⟩
      have kb : Kept (fun _ => False) w16 w17 := by rw [← hw17]; exact (Kept.refl _ _).alloc _
      obtain ⟨g4, hg4⟩ : ∃ q, w16.heap.size = q := ⟨_, rfl⟩
      have C40 := Lib.hid (show w17.cell? ⟨g4, 0, none⟩ = some (.slice a4 n4 c4) from by rw [← hw17, ← hg4]; simp)
      have C41 := Lib.hid (show w17.cell? ⟨g4, 1, none⟩ = some (.int .i64 (scN x.af x.li (rowR tn L))) from by rw [← hw17, ← hg4]; simp)
      have C42 := Lib.hid (show w17.cell? ⟨g4, 2, none⟩ = some (.bool (scM x.af x.li (rowR tn L))) from by rw [← hw17, ← hg4]; simp)
      rw [hw17, hg4]
      clear hw17 hg4
      replace MO := Lib.hid (MO.out.keptF kb)
      replace RF := Lib.hid (RF.out.keptF kb)
      replace KW := Lib.hid (keptFF KW.out kb)
      replace KX := Lib.hid (KX.out.trans kb (fun _ _ h => h) (fun _ _ f => f.elim) : Kept (fun k => k = b ∨ mp ≤ k) w3 w17)
      replace V1 := Lib.hid (V1.out.keptF kb)
      replace C10 := Lib.hid (kb.cell C10.out (fun f => f))
      replace C11 := Lib.hid (kb.cell C11.out (fun f => f))
      replace V2 := Lib.hid (V2.out.keptF kb)
      replace C20 := Lib.hid (kb.cell C20.out (fun f => f))
      replace C21 := Lib.hid (kb.cell C21.out (fun f => f))
      replace V3 := Lib.hid (V3.out.keptF kb)
      replace C30 := Lib.hid (kb.cell C30.out (fun f => f))
      replace C31 := Lib.hid (kb.cell C31.out (fun f => f))
      replace C32 := Lib.hid (kb.cell C32.out (fun f => f))
      replace V4 := Lib.hid (V4.out.keptF kb)
      clear kb
      refine (find_m x.q s1 s2 t1 t2 MO.out AL.out hM).mono ?_
      rintro e w18 ⟨v5, rfl, hr5, k⟩
      replace MO := Lib.hid (MO.out.keptF k)
      replace RF := Lib.hid (RF.out.keptF k)
      replace KW := Lib.hid (keptFF KW.out k)
      replace KX := Lib.hid (KX.out.trans k (fun _ _ h => h) (fun _ _ f => f.elim) : Kept (fun k => k = b ∨ mp ≤ k) w3 w18)
      replace V1 := Lib.hid (V1.out.keptF k)
      replace C10 := Lib.hid (k.cell C10.out (fun f => f))
      replace C11 := Lib.hid (k.cell C11.out (fun f => f))
      replace V2 := Lib.hid (V2.out.keptF k)
      replace C20 := Lib.hid (k.cell C20.out (fun f => f))
      replace C21 := Lib.hid (k.cell C21.out (fun f => f))
      replace V3 := Lib.hid (V3.out.keptF k)
      replace C30 := Lib.hid (k.cell C30.out (fun f => f))
      replace C31 := Lib.hid (k.cell C31.out (fun f => f))
      replace C32 := Lib.hid (k.cell C32.out (fun f => f))
      replace V4 := Lib.hid (V4.out.keptF k)
      replace C40 := Lib.hid (k.cell C40.out (fun f => f))
      replace C41 := Lib.hid (k.cell C41.out (fun f => f))
      replace C42 := Lib.hid (k.cell C42.out (fun f => f))
      obtain ⟨a5, c5, ev5, _⟩ := id hr5
      obtain ⟨n5, hn5⟩ : ∃ n, (fiL x.q (rowR tn L)).length = n := ⟨_, rfl⟩
      rw [hn5] at ev5
      subst ev5
      have V5 := Lib.hid hr5
      clear hr5 hn5
      clear k
      obtain ⟨q0, q1, q2, q3, q4, q5, q6, q7, q8⟩ := X3.out w18 KX.out
      go_wp2_with fail
      refine (find_r x.q s1 s2 t1 t2 RF.out AL.out hL).mono ?_
      rintro e w19 ⟨v6, rfl, hr6, k⟩
      clear q0 q1 q2 q3 q4 q5 q6 q7 q8
      replace MO := Lib.hid (MO.out.keptF k)
      replace RF := Lib.hid (RF.out.keptF k)
      replace KW := Lib.hid (keptFF KW.out k)
      replace KX := Lib.hid (KX.out.trans k (fun _ _ h => h) (fun _ _ f => f.elim) : Kept (fun k => k = b ∨ mp ≤ k) w3 w19)
      replace V1 := Lib.hid (V1.out.keptF k)
      replace C10 := Lib.hid (k.cell C10.out (fun f => f))
      replace C11 := Lib.hid (k.cell C11.out (fun f => f))
      replace V2 := Lib.hid (V2.out.keptF k)
      replace C20 := Lib.hid (k.cell C20.out (fun f => f))
      replace C21 := Lib.hid (k.cell C21.out (fun f => f))
      replace V3 := Lib.hid (V3.out.keptF k)
      replace C30 := Lib.hid (k.cell C30.out (fun f => f))
      replace C31 := Lib.hid (k.cell C31.out (fun f => f))
      replace C32 := Lib.hid (k.cell C32.out (fun f => f))
      replace V4 := Lib.hid (V4.out.keptF k)
      replace C40 := Lib.hid (k.cell C40.out (fun f => f))
      replace C41 := Lib.hid (k.cell C41.out (fun f => f))
      replace C42 := Lib.hid (k.cell C42.out (fun f => f))
      replace V5 := Lib.hid (V5.out.keptF k)
      obtain ⟨a6, c6, ev6, _⟩ := id hr6
      obtain ⟨n6, hn6⟩ : ∃ n, (fiL x.q (rowR tn L)).length = n := ⟨_, rfl⟩
      rw [hn6] at ev6
      subst ev6
      have V6 := Lib.hid hr6
      clear hr6 hn6
      clear k
      obtain ⟨q0, q1, q2, q3, q4, q5, q6, q7, q8⟩ := X3.out w19 KX.out
      go_wp2_with fail
      refine (tree_m x.tr t1 t2 MO.out AL.out hM).mono ?_
      rintro e w20 ⟨v7, v8, rfl, hr7, hr8, k⟩
      clear q0 q1 q2 q3 q4 q5 q6 q7 q8
      replace MO := Lib.hid (MO.out.keptF k)
      replace RF := Lib.hid (RF.out.keptF k)
      replace KW := Lib.hid (keptFF KW.out k)
      replace KX := Lib.hid (KX.out.trans k (fun _ _ h => h) (fun _ _ f => f.elim) : Kept (fun k => k = b ∨ mp ≤ k) w3 w20)
      replace V1 := Lib.hid (V1.out.keptF k)
      replace C10 := Lib.hid (k.cell C10.out (fun f => f))
      replace C11 := Lib.hid (k.cell C11.out (fun f => f))
      replace V2 := Lib.hid (V2.out.keptF k)
      replace C20 := Lib.hid (k.cell C20.out (fun f => f))
      replace C21 := Lib.hid (k.cell C21.out (fun f => f))
      replace V3 := Lib.hid (V3.out.keptF k)
      replace C30 := Lib.hid (k.cell C30.out (fun f => f))
      replace C31 := Lib.hid (k.cell C31.out (fun f => f))
      replace C32 := Lib.hid (k.cell C32.out (fun f => f))
      replace V4 := Lib.hid (V4.out.keptF k)
      replace C40 := Lib.hid (k.cell C40.out (fun f => f))
      replace C41 := Lib.hid (k.cell C41.out (fun f => f))
      replace C42 := Lib.hid (k.cell C42.out (fun f => f))
      replace V5 := Lib.hid (V5.out.keptF k)
      replace V6 := Lib.hid (V6.out.keptF k)
      obtain ⟨a7, c7, ev7, _⟩ := id hr7
      obtain ⟨n7, hn7⟩ : ∃ n, (trR x.tr (rowR tn L)).len = n := ⟨_, rfl⟩
      rw [hn7] at ev7
      subst ev7
      have V7 := Lib.hid hr7
      clear hr7 hn7
      obtain ⟨a8, c8, ev8, _⟩ := id hr8
      obtain ⟨n8, hn8⟩ : ∃ n, (trO x.tr (rowR tn L)).len = n := ⟨_, rfl⟩
      rw [hn8] at ev8
      subst ev8
      have V8 := Lib.hid hr8
      clear hr8 hn8
      clear k
      obtain ⟨q0, q1, q2, q3, q4, q5, q6, q7, q8⟩ := X3.out w20 KX.out
      have qo := fun o => X3.out (w20.alloc o) (KX.out.alloc o)
      have qo0 := fun o => (qo o).1
      have qo1 := fun o => (qo o).2.1
      have qo2 := fun o => (qo o).2.2.1
      have qo3 := fun o => (qo o).2.2.2.1
      have qo4 := fun o => (qo o).2.2.2.2.1
      have qo5 := fun o => (qo o).2.2.2.2.2.1
      have qo6 := fun o => (qo o).2.2.2.2.2.2.1
      have qo7 := fun o => (qo o).2.2.2.2.2.2.2.1
      have qo8 := fun o => (qo o).2.2.2.2.2.2.2.2
      clear qo
      go_wp2_with fail
      clear q0 q1 q2 q3 q4 q5 q6 q7 q8 qo0 qo1 qo2 qo3 qo4 qo5 qo6 qo7 qo8
      obtain ⟨w21, hw21⟩ : ∃ W, w20.alloc (.cells #[.slice a7 n7 c7, .slice a8 n8 c8] 60) = W := ⟨_, rfl⟩
      have kb : Kept (fun _ => False) w20 w21 := by rw [← hw21]; exact (Kept.refl _ _).alloc _
      obtain ⟨g7, hg7⟩ : ∃ q, w20.heap.size = q := ⟨_, rfl⟩
      have C70 := Lib.hid (show w21.cell? ⟨g7, 0, none⟩ = some (.slice a7 n7 c7) from by rw [← hw21, ← hg7]; simp)
      have C71 := Lib.hid (show w21.cell? ⟨g7, 1, none⟩ = some (.slice a8 n8 c8) from by rw [← hw21, ← hg7]; simp)
      rw [hw21, hg7]
      clear hw21 hg7
      replace MO := Lib.hid (MO.out.keptF kb)
      replace RF := Lib.hid (RF.out.keptF kb)
      replace KW := Lib.hid (keptFF KW.out kb)
      replace KX := Lib.hid (KX.out.trans kb (fun _ _ h => h) (fun _ _ f => f.elim) : Kept (fun k => k = b ∨ mp ≤ k) w3 w21)
      replace V1 := Lib.hid (V1.out.keptF kb)
      replace C10 := Lib.hid (kb.cell C10.out (fun f => f))
      replace C11 := Lib.hid (kb.cell C11.out (fun f => f))
      replace V2 := Lib.hid (V2.out.keptF kb)
      replace C20 := Lib.hid (kb.cell C20.out (fun f => f))
      replace C21 := Lib.hid (kb.cell C21.out (fun f => f))
      replace V3 := Lib.hid (V3.out.keptF kb)
      replace C30 := Lib.hid (kb.cell C30.out (fun f => f))
      replace C31 := Lib.hid (kb.cell C31.out (fun f => f))
      replace C32 := Lib.hid (kb.cell C32.out (fun f => f))
      replace V4 := Lib.hid (V4.out.keptF kb)
      replace C40 := Lib.hid (kb.cell C40.out (fun f => f))
      replace C41 := Lib.hid (kb.cell C41.out (fun f => f))
      replace C42 := Lib.hid (kb.cell C42.out (fun f => f))
      replace V5 := Lib.hid (V5.out.keptF kb)
      replace V6 := Lib.hid (V6.out.keptF kb)
      replace V7 := Lib.hid (V7.out.kept kb)
      replace V8 := Lib.hid (V8.out.kept kb)
      clear kb
      refine (tree_r x.tr t1 t2 RF.out AL.out hL).mono ?_
      rintro e w22 ⟨v9, v10, rfl, hr9, hr10, k⟩
      replace MO := Lib.hid (MO.out.keptF k)
      replace RF := Lib.hid (RF.out.keptF k)
      replace KW := Lib.hid (keptFF KW.out k)
      replace KX := Lib.hid (KX.out.trans k (fun _ _ h => h) (fun _ _ f => f.elim) : Kept (fun k => k = b ∨ mp ≤ k) w3 w22)
      replace V1 := Lib.hid (V1.out.keptF k)
      replace C10 := Lib.hid (k.cell C10.out (fun f => f))
      replace C11 := Lib.hid (k.cell C11.out (fun f => f))
      replace V2 := Lib.hid (V2.out.keptF k)
      replace C20 := Lib.hid (k.cell C20.out (fun f => f))
      replace C21 := Lib.hid (k.cell C21.out (fun f => f))
      replace V3 := Lib.hid (V3.out.keptF k)
      replace C30 := Lib.hid (k.cell C30.out (fun f => f))
      replace C31 := Lib.hid (k.cell C31.out (fun f => f))
      replace C32 := Lib.hid (k.cell C32.out (fun f => f))
      replace V4 := Lib.hid (V4.out.keptF k)
      replace C40 := Lib.hid (k.cell C40.out (fun f => f))
      replace C41 := Lib.hid (k.cell C41.out (fun f => f))
      replace C42 := Lib.hid (k.cell C42.out (fun f => f))
      replace V5 := Lib.hid (V5.out.keptF k)
      replace V6 := Lib.hid (V6.out.keptF k)
      replace V7 := Lib.hid (V7.out.kept k)
      replace V8 := Lib.hid (V8.out.kept k)
      replace C70 := Lib.hid (k.cell C70.out (fun f => f))
      replace C71 := Lib.hid (k.cell C71.out (fun f => f))
      obtain ⟨a9, c9, ev9, _⟩ := id hr9
      obtain ⟨n9, hn9⟩ : ∃ n, (trR x.tr (rowR tn L)).len = n := ⟨_, rfl⟩
      rw [hn9] at ev9
      subst ev9
      have V9 := Lib.hid hr9
      clear hr9 hn9
      obtain ⟨a10, c10, ev10, _⟩ := id hr10
      obtain ⟨n10, hn10⟩ : ∃ n, (trO x.tr (rowR tn L)).len = n := ⟨_, rfl⟩
      rw [hn10] at ev10
      subst ev10
      have V10 := Lib.hid hr10
      clear hr10 hn10
      clear k
      have co10 := fun o => ((Kept.refl (fun _ => False) w22).alloc o).cell C10.out (fun f => f)
      have co11 := fun o => ((Kept.refl (fun _ => False) w22).alloc o).cell C11.out (fun f => f)
      have co20 := fun o => ((Kept.refl (fun _ => False) w22).alloc o).cell C20.out (fun f => f)
      have co21 := fun o => ((Kept.refl (fun _ => False) w22).alloc o).cell C21.out (fun f => f)
      go_wp2_with fail
      clear co10 co11 co20 co21
      obtain ⟨w23, hw23⟩ : ∃ W, w22.alloc (.cells #[.slice a9 n9 c9, .slice a10 n10 c10] 60) = W := ⟨_, rfl⟩
      have kb : Kept (fun _ => False) w22 w23 := by rw [← hw23]; exact (Kept.refl _ _).alloc _
      obtain ⟨g9, hg9⟩ : ∃ q, w22.heap.size = q := ⟨_, rfl⟩
      have C90 := Lib.hid (show w23.cell? ⟨g9, 0, none⟩ = some (.slice a9 n9 c9) from by rw [← hw23, ← hg9]; simp)
      have C91 := Lib.hid (show w23.cell? ⟨g9, 1, none⟩ = some (.slice a10 n10 c10) from by rw [← hw23, ← hg9]; simp)
      rw [hw23, hg9]
      clear hw23 hg9
      replace MO := Lib.hid (MO.out.keptF kb)
      replace RF := Lib.hid (RF.out.keptF kb)
      replace KW := Lib.hid (keptFF KW.out kb)
      replace KX := Lib.hid (KX.out.trans kb (fun _ _ h => h) (fun _ _ f => f.elim) : Kept (fun k => k = b ∨ mp ≤ k) w3 w23)
      replace V1 := Lib.hid (V1.out.keptF kb)
      replace C10 := Lib.hid (kb.cell C10.out (fun f => f))
      replace C11 := Lib.hid (kb.cell C11.out (fun f => f))
      replace V2 := Lib.hid (V2.out.keptF kb)
      replace C20 := Lib.hid (kb.cell C20.out (fun f => f))
      replace C21 := Lib.hid (kb.cell C21.out (fun f => f))
      replace V3 := Lib.hid (V3.out.keptF kb)
      replace C30 := Lib.hid (kb.cell C30.out (fun f => f))
      replace C31 := Lib.hid (kb.cell C31.out (fun f => f))
      replace C32 := Lib.hid (kb.cell C32.out (fun f => f))
      replace V4 := Lib.hid (V4.out.keptF kb)
      replace C40 := Lib.hid (kb.cell C40.out (fun f => f))
      replace C41 := Lib.hid (kb.cell C41.out (fun f => f))
      replace C42 := Lib.hid (kb.cell C42.out (fun f => f))
      replace V5 := Lib.hid (V5.out.keptF kb)
      replace V6 := Lib.hid (V6.out.keptF kb)
      replace V7 := Lib.hid (V7.out.kept kb)
      replace V8 := Lib.hid (V8.out.kept kb)
      replace C70 := Lib.hid (kb.cell C70.out (fun f => f))
      replace C71 := Lib.hid (kb.cell C71.out (fun f => f))
      replace V9 := Lib.hid (V9.out.kept kb)
      replace V10 := Lib.hid (V10.out.kept kb)
      clear kb
      refine (same_refl _ _ _ (getL x.tr (rowR tn L)) V1.out V2.out (by have := getL_len x.tr (rowR tn L); have := RRL.out; omega)).mono ?_
      rintro e w24 ⟨rfl, k⟩
      replace MO := Lib.hid (MO.out.keptF k)
      replace RF := Lib.hid (RF.out.keptF k)
      replace KW := Lib.hid (keptFF KW.out k)
      replace KX := Lib.hid (KX.out.trans k (fun _ _ h => h) (fun _ _ f => f.elim) : Kept (fun k => k = b ∨ mp ≤ k) w3 w24)
      replace V1 := Lib.hid (V1.out.keptF k)
      replace C10 := Lib.hid (k.cell C10.out (fun f => f))
      replace C11 := Lib.hid (k.cell C11.out (fun f => f))
      replace V2 := Lib.hid (V2.out.keptF k)
      replace C20 := Lib.hid (k.cell C20.out (fun f => f))
      replace C21 := Lib.hid (k.cell C21.out (fun f => f))
      replace V3 := Lib.hid (V3.out.keptF k)
      replace C30 := Lib.hid (k.cell C30.out (fun f => f))
      replace C31 := Lib.hid (k.cell C31.out (fun f => f))
      replace C32 := Lib.hid (k.cell C32.out (fun f => f))
      replace V4 := Lib.hid (V4.out.keptF k)
      replace C40 := Lib.hid (k.cell C40.out (fun f => f))
      replace C41 := Lib.hid (k.cell C41.out (fun f => f))
      replace C42 := Lib.hid (k.cell C42.out (fun f => f))
      replace V5 := Lib.hid (V5.out.keptF k)
      replace V6 := Lib.hid (V6.out.keptF k)
      replace V7 := Lib.hid (V7.out.kept k)
      replace V8 := Lib.hid (V8.out.kept k)
      replace C70 := Lib.hid (k.cell C70.out (fun f => f))
      replace C71 := Lib.hid (k.cell C71.out (fun f => f))
      replace V9 := Lib.hid (V9.out.kept k)
      replace V10 := Lib.hid (V10.out.kept k)
      replace C90 := Lib.hid (k.cell C90.out (fun f => f))
      replace C91 := Lib.hid (k.cell C91.out (fun f => f))
      clear k
      have cc30 := C30.out
      have cc31 := C31.out
      have cc32 := C32.out
      have cc40 := C40.out
      have cc41 := C41.out
      have cc42 := C42.out
      go_wp2_with fail
      clear cc30 cc31 cc32 cc40 cc41 cc42
      refine (page_refl _ _ _ (scL x.af x.li (rowR tn L)) _ _ V3.out V4.out (by have := (scL_len x.af x.li (rowR tn L)).1; have := RRL.out; omega) (fun y hy => by have := (scL_len x.af x.li (rowR tn L)).2 y hy; have := RRL.out; omega)).mono ?_
      rintro e w25 ⟨rfl, k⟩
      replace MO := Lib.hid (MO.out.keptF k)
      replace RF := Lib.hid (RF.out.keptF k)
      replace KW := Lib.hid (keptFF KW.out k)
      replace KX := Lib.hid (KX.out.trans k (fun _ _ h => h) (fun _ _ f => f.elim) : Kept (fun k => k = b ∨ mp ≤ k) w3 w25)
      replace V1 := Lib.hid (V1.out.keptF k)
      replace C10 := Lib.hid (k.cell C10.out (fun f => f))
      replace C11 := Lib.hid (k.cell C11.out (fun f => f))
      replace V2 := Lib.hid (V2.out.keptF k)
      replace C20 := Lib.hid (k.cell C20.out (fun f => f))
      replace C21 := Lib.hid (k.cell C21.out (fun f => f))
      replace V3 := Lib.hid (V3.out.keptF k)
      replace C30 := Lib.hid (k.cell C30.out (fun f => f))
      replace C31 := Lib.hid (k.cell C31.out (fun f => f))
      replace C32 := Lib.hid (k.cell C32.out (fun f => f))
      replace V4 := Lib.hid (V4.out.keptF k)
      replace C40 := Lib.hid (k.cell C40.out (fun f => f))
      replace C41 := Lib.hid (k.cell C41.out (fun f => f))
      replace C42 := Lib.hid (k.cell C42.out (fun f => f))
      replace V5 := Lib.hid (V5.out.keptF k)
      replace V6 := Lib.hid (V6.out.keptF k)
      replace V7 := Lib.hid (V7.out.kept k)
      replace V8 := Lib.hid (V8.out.kept k)
      replace C70 := Lib.hid (k.cell C70.out (fun f => f))
      replace C71 := Lib.hid (k.cell C71.out (fun f => f))
      replace V9 := Lib.hid (V9.out.kept k)
      replace V10 := Lib.hid (V10.out.kept k)
      replace C90 := Lib.hid (k.cell C90.out (fun f => f))
      replace C91 := Lib.hid (k.cell C91.out (fun f => f))
      clear k
      go_wp2_with fail
      refine (ints_refl _ _ _ (fiL x.q (rowR tn L)) V5.out V6.out (by have := fiL_len x.q (rowR tn L); have := RRL.out; omega)).mono ?_
      rintro e w26 ⟨rfl, k⟩
      replace MO := Lib.hid (MO.out.keptF k)
      replace RF := Lib.hid (RF.out.keptF k)
      replace KW := Lib.hid (keptFF KW.out k)
      replace KX := Lib.hid (KX.out.trans k (fun _ _ h => h) (fun _ _ f => f.elim) : Kept (fun k => k = b ∨ mp ≤ k) w3 w26)
      replace V1 := Lib.hid (V1.out.keptF k)
      replace C10 := Lib.hid (k.cell C10.out (fun f => f))
      replace C11 := Lib.hid (k.cell C11.out (fun f => f))
      replace V2 := Lib.hid (V2.out.keptF k)
      replace C20 := Lib.hid (k.cell C20.out (fun f => f))
      replace C21 := Lib.hid (k.cell C21.out (fun f => f))
      replace V3 := Lib.hid (V3.out.keptF k)
      replace C30 := Lib.hid (k.cell C30.out (fun f => f))
      replace C31 := Lib.hid (k.cell C31.out (fun f => f))
      replace C32 := Lib.hid (k.cell C32.out (fun f => f))
      replace V4 := Lib.hid (V4.out.keptF k)
      replace C40 := Lib.hid (k.cell C40.out (fun f => f))
      replace C41 := Lib.hid (k.cell C41.out (fun f => f))
      replace C42 := Lib.hid (k.cell C42.out (fun f => f))
      replace V5 := Lib.hid (V5.out.keptF k)
      replace V6 := Lib.hid (V6.out.keptF k)
      replace V7 := Lib.hid (V7.out.kept k)
      replace V8 := Lib.hid (V8.out.kept k)
      replace C70 := Lib.hid (k.cell C70.out (fun f => f))
      replace C71 := Lib.hid (k.cell C71.out (fun f => f))
      replace V9 := Lib.hid (V9.out.kept k)
      replace V10 := Lib.hid (V10.out.kept k)
      replace C90 := Lib.hid (k.cell C90.out (fun f => f))
      replace C91 := Lib.hid (k.cell C91.out (fun f => f))
      clear k
      have cc70 := C70.out
      have cc90 := C90.out
      go_wp2_with fail
      clear cc70 cc90
      refine (nodes_refl _ _ _ (trR x.tr (rowR tn L)) (trR_wide x.tr (rowR tn L) RRL.out) V7.out V9.out).mono ?_
      rintro e w27 ⟨rfl, k⟩
      replace MO := Lib.hid (MO.out.keptF k)
      replace RF := Lib.hid (RF.out.keptF k)
      replace KW := Lib.hid (keptFF KW.out k)
      replace KX := Lib.hid (KX.out.trans k (fun _ _ h => h) (fun _ _ f => f.elim) : Kept (fun k => k = b ∨ mp ≤ k) w3 w27)
      replace V1 := Lib.hid (V1.out.keptF k)
      replace C10 := Lib.hid (k.cell C10.out (fun f => f))
      replace C11 := Lib.hid (k.cell C11.out (fun f => f))
      replace V2 := Lib.hid (V2.out.keptF k)
      replace C20 := Lib.hid (k.cell C20.out (fun f => f))
      replace C21 := Lib.hid (k.cell C21.out (fun f => f))
      replace V3 := Lib.hid (V3.out.keptF k)
      replace C30 := Lib.hid (k.cell C30.out (fun f => f))
      replace C31 := Lib.hid (k.cell C31.out (fun f => f))
      replace C32 := Lib.hid (k.cell C32.out (fun f => f))
      replace V4 := Lib.hid (V4.out.keptF k)
      replace C40 := Lib.hid (k.cell C40.out (fun f => f))
      replace C41 := Lib.hid (k.cell C41.out (fun f => f))
      replace C42 := Lib.hid (k.cell C42.out (fun f => f))
      replace V5 := Lib.hid (V5.out.keptF k)
      replace V6 := Lib.hid (V6.out.keptF k)
      replace V7 := Lib.hid (V7.out.kept k)
      replace V8 := Lib.hid (V8.out.kept k)
      replace C70 := Lib.hid (k.cell C70.out (fun f => f))
      replace C71 := Lib.hid (k.cell C71.out (fun f => f))
      replace V9 := Lib.hid (V9.out.kept k)
      replace V10 := Lib.hid (V10.out.kept k)
      replace C90 := Lib.hid (k.cell C90.out (fun f => f))
      replace C91 := Lib.hid (k.cell C91.out (fun f => f))
      clear k
      have cc71 := C71.out
      have cc91 := C91.out
      go_wp2_with fail
      clear cc71 cc91
      refine (nodes_refl _ _ _ (trO x.tr (rowR tn L)) (trO_wide x.tr (rowR tn L) RRL.out) V8.out V10.out).mono ?_
      rintro e w28 ⟨rfl, k⟩
      replace MO := Lib.hid (MO.out.keptF k)
      replace RF := Lib.hid (RF.out.keptF k)
      replace KW := Lib.hid (keptFF KW.out k)
      replace KX := Lib.hid (KX.out.trans k (fun _ _ h => h) (fun _ _ f => f.elim) : Kept (fun k => k = b ∨ mp ≤ k) w3 w28)
      replace V1 := Lib.hid (V1.out.keptF k)
      replace C10 := Lib.hid (k.cell C10.out (fun f => f))
      replace C11 := Lib.hid (k.cell C11.out (fun f => f))
      replace V2 := Lib.hid (V2.out.keptF k)
      replace C20 := Lib.hid (k.cell C20.out (fun f => f))
      replace C21 := Lib.hid (k.cell C21.out (fun f => f))
      replace V3 := Lib.hid (V3.out.keptF k)
      replace C30 := Lib.hid (k.cell C30.out (fun f => f))
      replace C31 := Lib.hid (k.cell C31.out (fun f => f))
      replace C32 := Lib.hid (k.cell C32.out (fun f => f))
      replace V4 := Lib.hid (V4.out.keptF k)
      replace C40 := Lib.hid (k.cell C40.out (fun f => f))
      replace C41 := Lib.hid (k.cell C41.out (fun f => f))
      replace C42 := Lib.hid (k.cell C42.out (fun f => f))
      replace V5 := Lib.hid (V5.out.keptF k)
      replace V6 := Lib.hid (V6.out.keptF k)
      replace V7 := Lib.hid (V7.out.kept k)
      replace V8 := Lib.hid (V8.out.kept k)
      replace C70 := Lib.hid (k.cell C70.out (fun f => f))
      replace C71 := Lib.hid (k.cell C71.out (fun f => f))
      replace V9 := Lib.hid (V9.out.kept k)
      replace V10 := Lib.hid (V10.out.kept k)
      replace C90 := Lib.hid (k.cell C90.out (fun f => f))
      replace C91 := Lib.hid (k.cell C91.out (fun f => f))
      clear k
      go_wp2_with fail
      refine (lives_any _).mono ?_
      rintro e w99 ⟨rfl, k9⟩
      have K9 := Lib.hid (below_of KW.out k9)
      clear k9
      go_wp2
      go_ret
      exact ⟨rfl, K9.out⟩
end Go.Proofs.Ytibakmchgppndaa
/- How what is asked reads as an argument. -/
namespace Go.Proofs.Ytibakmchgppndaa
open Go.ChangeShapes Go.WideShapes Go.ChangeAt Go.RowKit Go.Deep

theorem cellsOf40 : Try.prog.cellsOf 40 = 5 := by kernel_rfl
theorem cellsOf42 : Try.prog.cellsOf 42 = 9 := by kernel_rfl
def Qry.cells (q : Qry) : List Value := [.string q.se, .string q.ho, .int .i64 q.fr, .int .i64 q.tt, .int .i64 q.li]
section
variable {H : Type} {enc : TypeId × Value → H} {w : World} {spare : Nat → Bool} {held : Bool} {fuel : Nat} {cs : List Value} {x : DataW H × List MemPlace}
set_option maxRecDepth 100000 in
theorem qry_cells (h : DataW.trod enc Try.prog w 0 spare held fuel 40 cs = some x) : ∃ q : Qry, cs = q.cells ∧ q.se.size ≤ maxLen ∧ q.ho.size ≤ maxLen := by
 obtain ⟨xs, n, _, rfl, hl, hlen, hf⟩ := DataW.trod_struct Try.underlying40 h
 rw [cellsOf40] at hl
 match xs, hlen, cs, hl with
 | [y0, y1, y2, y3, y4], _, [c0, c1, c2, c3, c4], _ =>
  have h0 := hf 0 _ rfl
  have h1 := hf 1 _ rfl
  have h2 := hf 2 _ rfl
  have h3 := hf 3 _ rfl
  have h4 := hf 4 _ rfl
  simp [cellsOf9] at h0
  simp [cellsOf9] at h1
  simp [cellsOf3] at h2
  simp [cellsOf3] at h3
  simp [cellsOf3] at h4
  obtain ⟨a0, e0, _, b0⟩ := DataW.trod_string Try.underlying9 h0
  obtain ⟨a1, e1, _, b1⟩ := DataW.trod_string Try.underlying9 h1
  obtain ⟨a2, e2, _, _⟩ := DataW.trod_int Try.underlying3 h2
  obtain ⟨a3, e3, _, _⟩ := DataW.trod_int Try.underlying3 h3
  obtain ⟨a4, e4, _, _⟩ := DataW.trod_int Try.underlying3 h4
  simp only [List.cons.injEq, and_true] at e0 e1 e2 e3 e4
  exact ⟨⟨a0, a1, a2, a3, a4⟩, by rw [e0, e1, e2, e3, e4]; rfl, b0, b1⟩
set_option maxRecDepth 100000 in
theorem ask_open (h : DataW.trod enc Try.prog w 0 spare held fuel 42 cs = some x) : ∃ a : AskP, cs = [.int .i64 a.tr, .int .i64 a.af, .int .i64 a.li, .string a.q.se, .string a.q.ho, .int .i64 a.q.fr, .int .i64 a.q.tt, .int .i64 a.q.li, .int .u8 a.later] ∧ a.q.se.size ≤ maxLen ∧ a.q.ho.size ≤ maxLen ∧ 0 ≤ a.later ∧ a.later ≤ 255 := by
 obtain ⟨xs, n, _, rfl, hl, hlen, hf⟩ := DataW.trod_struct Try.underlying42 h
 rw [cellsOf42] at hl
 match xs, hlen, cs, hl with
 | [y0, y1, y2, y3, y4], _, [c0, c1, c2, c3, c4, c5, c6, c7, c8], _ =>
  have h0 := hf 0 _ rfl
  have h1 := hf 1 _ rfl
  have h2 := hf 2 _ rfl
  have h3 := hf 3 _ rfl
  have h4 := hf 4 _ rfl
  simp [cellsOf3] at h0
  simp [cellsOf3] at h1
  simp [cellsOf3] at h2
  simp [cellsOf40] at h3
  simp [cellsOf5] at h4
  obtain ⟨a0, e0, _, _⟩ := DataW.trod_int Try.underlying3 h0
  obtain ⟨a1, e1, _, _⟩ := DataW.trod_int Try.underlying3 h1
  obtain ⟨a2, e2, _, _⟩ := DataW.trod_int Try.underlying3 h2
  obtain ⟨q, e3, b3, b4⟩ := qry_cells h3
  obtain ⟨a4, e4, _, hw⟩ := DataW.trod_int Try.underlying5 h4
  have ht := u8_bounds hw
  unfold Qry.cells at e3
  simp only [List.cons.injEq, and_true] at e0 e1 e2 e3 e4
  obtain ⟨f0, f1, f2, f3, f4⟩ := e3
  exact ⟨⟨a0, a1, a2, q, a4⟩, by rw [e0, e1, e2, f0, f1, f2, f3, f4, e4], b3, b4, ht.1, by have := ht.2; show a4 ≤ 255; omega⟩
end
end Go.Proofs.Ytibakmchgppndaa
