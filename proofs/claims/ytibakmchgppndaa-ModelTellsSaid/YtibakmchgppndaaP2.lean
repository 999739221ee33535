/- Five, Lives -/
import Derived.Test.YtibakmchgppndaaP1
/- The region of the chapter's example in which four Takes and four lists are in no order: from each state of it to its end. -/
namespace Go.Proofs.Ytibakmchgppndaa
open Go.RowKit Go.MapKept Go.Instr Go.ChangeMaps

def regionOps : Code → Nat → Option (Array Oper)
 | .seq a b, n => (regionOps a n).or (regionOps b n)
 | .region i ops _, n => if i = n then some ops else none
 | .cond _ a b, n => (regionOps a n).or (regionOps b n)
 | _, _ => none
noncomputable def ops5 : Array Oper := ((Try.f7.body.bind fun c => regionOps c 5)).getD #[]
noncomputable def o5 (i : Nat) : Oper := (ops5[i]?).getD default
def CellsAt (w : World) (g : Nat) (e : ByteArray) : Prop := ∀ j u, (cells8 e)[j]? = some u → w.cell? ⟨g, j, none⟩ = some u
theorem CellsAt.keptF {w w' : World} {g : Nat} {e : ByteArray} (h : CellsAt w g e) (hK : Kept (fun _ => False) w w') : CellsAt w' g e := fun j u hj => hK.cell (h j u hj) (fun f => f)
theorem CellsAt.keptB {w w' : World} {g b c : Nat} {e : ByteArray} {es : Array MapEntry} (h : CellsAt w g e) (hb : w.heap[b]? = some (.map es c)) (hK : Kept (fun k => k = b) w w') : CellsAt w' g e := fun j u hj => hK.cell (h j u hj) (fun e' => by
 have h1 := h 0 _ rfl
 have h2 := cell_map (j := 0) hb
 simp only at e'
 rw [e', h2] at h1; cases h1)
theorem CellsAt.new {w : World} {e : ByteArray} : CellsAt (w.alloc (.cells #[.int .i64 3, .int .i64 1, .int .i64 0, .string ⟨#[97]⟩, .string ⟨#[104]⟩, .int .i64 10, .int .i64 0, .string e] 37)) w.heap.size e := by
 intro j u hj
 unfold cells8 at hj
 rcases j with _ | _ | _ | _ | _ | _ | _ | _ | j <;> simp at hj <;> subst hj <;> simp

theorem at5_0 : ops5[0]? = some { dst := some 14, op := Op.move (Operand.tmp 1), type := 25, pos := (o5 0).pos, after := (o5 0).after, guard := none } := by kernel_rfl
theorem at5_1 : ops5[1]? = some { dst := some 15, op := Op.load 37 (Operand.tmp 2), type := 37, pos := (o5 1).pos, after := (o5 1).after, guard := none } := by kernel_rfl
theorem at5_2 : ops5[2]? = some { dst := some 16, op := Op.buildSlice 27 1 #[(0, Operand.tmp 15)], type := 27, pos := (o5 2).pos, after := (o5 2).after, guard := none } := by kernel_rfl
theorem at5_3 : ops5[3]? = some { dst := some 17, op := Op.call { callee := Callee.value (Operand.func 9), args := #[Operand.tmp 14, Operand.tmp 16, Operand.const (Value.int IntKind.i64 20)], argTypes := #[25, 27, 3] }, type := 3, pos := (o5 3).pos, after := (o5 3).after, guard := none } := by kernel_rfl
theorem at5_4 : ops5[4]? = some { dst := some 18, op := Op.move (Operand.tmp 1), type := 25, pos := (o5 4).pos, after := (o5 4).after, guard := none } := by kernel_rfl
theorem at5_5 : ops5[5]? = some { dst := some 19, op := Op.load 37 (Operand.tmp 3), type := 37, pos := (o5 5).pos, after := (o5 5).after, guard := none } := by kernel_rfl
theorem at5_6 : ops5[6]? = some { dst := some 20, op := Op.buildSlice 27 1 #[(0, Operand.tmp 19)], type := 27, pos := (o5 6).pos, after := (o5 6).after, guard := none } := by kernel_rfl
theorem at5_7 : ops5[7]? = some { dst := some 21, op := Op.call { callee := Callee.value (Operand.func 9), args := #[Operand.tmp 18, Operand.tmp 20, Operand.const (Value.int IntKind.i64 20)], argTypes := #[25, 27, 3] }, type := 3, pos := (o5 7).pos, after := (o5 7).after, guard := none } := by kernel_rfl
theorem at5_8 : ops5[8]? = some { dst := some 22, op := Op.move (Operand.tmp 1), type := 25, pos := (o5 8).pos, after := (o5 8).after, guard := none } := by kernel_rfl
theorem at5_9 : ops5[9]? = some { dst := some 23, op := Op.load 37 (Operand.tmp 3), type := 37, pos := (o5 9).pos, after := (o5 9).after, guard := none } := by kernel_rfl
theorem at5_10 : ops5[10]? = some { dst := some 24, op := Op.buildSlice 27 1 #[(0, Operand.tmp 23)], type := 27, pos := (o5 10).pos, after := (o5 10).after, guard := none } := by kernel_rfl
theorem at5_11 : ops5[11]? = some { dst := some 25, op := Op.call { callee := Callee.value (Operand.func 9), args := #[Operand.tmp 22, Operand.tmp 24, Operand.const (Value.int IntKind.i64 69)], argTypes := #[25, 27, 3] }, type := 3, pos := (o5 11).pos, after := (o5 11).after, guard := none } := by kernel_rfl
theorem at5_12 : ops5[12]? = some { dst := some 26, op := Op.move (Operand.tmp 1), type := 25, pos := (o5 12).pos, after := (o5 12).after, guard := none } := by kernel_rfl
theorem at5_13 : ops5[13]? = some { dst := some 27, op := Op.load 37 (Operand.tmp 3), type := 37, pos := (o5 13).pos, after := (o5 13).after, guard := none } := by kernel_rfl
theorem at5_14 : ops5[14]? = some { dst := some 28, op := Op.buildSlice 27 1 #[(0, Operand.tmp 27)], type := 27, pos := (o5 14).pos, after := (o5 14).after, guard := none } := by kernel_rfl
theorem at5_15 : ops5[15]? = some { dst := some 29, op := Op.call { callee := Callee.value (Operand.func 9), args := #[Operand.tmp 26, Operand.tmp 28, Operand.const (Value.int IntKind.i64 70)], argTypes := #[25, 27, 3] }, type := 3, pos := (o5 15).pos, after := (o5 15).after, guard := none } := by kernel_rfl
theorem at5_16 : ops5[16]? = some { dst := some 4, op := Op.assign (Operand.tmp 17), type := 3, pos := (o5 16).pos, after := (o5 16).after, guard := none } := by kernel_rfl
theorem at5_17 : ops5[17]? = some { dst := some 5, op := Op.assign (Operand.tmp 21), type := 3, pos := (o5 17).pos, after := (o5 17).after, guard := none } := by kernel_rfl
theorem at5_18 : ops5[18]? = some { dst := some 6, op := Op.assign (Operand.tmp 25), type := 3, pos := (o5 18).pos, after := (o5 18).after, guard := none } := by kernel_rfl
theorem at5_19 : ops5[19]? = some { dst := some 7, op := Op.assign (Operand.tmp 29), type := 3, pos := (o5 19).pos, after := (o5 19).after, guard := none } := by kernel_rfl
def S5 (ns nt : Nat) (w : World) : Prop := CellsAt w ns ⟨#[]⟩ ∧ CellsAt w nt ⟨#[111, 116, 104, 101, 114]⟩
def HQ5 (Q : Exit → Act → World → Prop) : Prop := ∀ (c : _) (a : Act) (d : Tmp) (v : Value) (w : World), Q (.panic c) (a.put (some d) v) w → Q (.panic c) a w
def FIN5 (Q : Exit → Act → World → Prop) (p b ns nt : Nat) (w0 : World) : Prop := ∀ (x0 x8 x9 x10 x11 x12 x13 x16 x20 x24 x28 x30 x31 x32 x33 x34 x35 x36 x37 x38 x39 x40 x41 x42 x43 x44 x45 x46 x47 x48 x49 x50 x51 x52 x53 x54 x55 x56 x57 x58 x59 x60 x61 x62 x63 x64 x65 x66 x67 x68 x69 x70 x71 : Value) (w : World), w.cell? ⟨p, 0, none⟩ = some (.map (some b)) → w.heap[b]? = some (.map #[⟨kV, spanV ⟨#[]⟩, 0⟩] 1) → CellsAt w ns ⟨#[]⟩ → Kept (fun k => k = b) w0 w → Q .normal ⟨#[x0, .pointer (some ⟨p, 0, none⟩), .pointer (some ⟨ns, 0, none⟩), .pointer (some ⟨nt, 0, none⟩), .int .i64 1, .int .i64 0, .int .i64 0, .int .i64 0, x8, x9, x10, x11, x12, x13, .pointer (some ⟨p, 0, none⟩), .agg #[.int .i64 3, .int .i64 1, .int .i64 0, .string ⟨#[97]⟩, .string ⟨#[104]⟩, .int .i64 10, .int .i64 0, .string ⟨#[]⟩], x16, .int .i64 1, .pointer (some ⟨p, 0, none⟩), .agg #[.int .i64 3, .int .i64 1, .int .i64 0, .string ⟨#[97]⟩, .string ⟨#[104]⟩, .int .i64 10, .int .i64 0, .string ⟨#[111, 116, 104, 101, 114]⟩], x20, .int .i64 0, .pointer (some ⟨p, 0, none⟩), .agg #[.int .i64 3, .int .i64 1, .int .i64 0, .string ⟨#[97]⟩, .string ⟨#[104]⟩, .int .i64 10, .int .i64 0, .string ⟨#[111, 116, 104, 101, 114]⟩], x24, .int .i64 0, .pointer (some ⟨p, 0, none⟩), .agg #[.int .i64 3, .int .i64 1, .int .i64 0, .string ⟨#[97]⟩, .string ⟨#[104]⟩, .int .i64 10, .int .i64 0, .string ⟨#[111, 116, 104, 101, 114]⟩], x28, .int .i64 0, x30, x31, x32, x33, x34, x35, x36, x37, x38, x39, x40, x41, x42, x43, x44, x45, x46, x47, x48, x49, x50, x51, x52, x53, x54, x55, x56, x57, x58, x59, x60, x61, x62, x63, x64, x65, x66, x67, x68, x69, x70, x71], []⟩ w
section
variable {Q : Exit → Act → World → Prop} {p b ns nt : Nat} {w0 : World}
set_option maxHeartbeats 4000000 in
set_option maxRecDepth 100000 in
theorem st4_ (HQ : HQ5 Q) (FIN : FIN5 Q p b ns nt w0)
  (x0 x4 x5 x6 x7 x8 x9 x10 x11 x12 x13 x16 x20 x24 x28 x30 x31 x32 x33 x34 x35 x36 x37 x38 x39 x40 x41 x42 x43 x44 x45 x46 x47 x48 x49 x50 x51 x52 x53 x54 x55 x56 x57 x58 x59 x60 x61 x62 x63 x64 x65 x66 x67 x68 x69 x70 x71 : Value) (w : World) (hp : w.cell? ⟨p, 0, none⟩ = some (.map (some b))) (hb : w.heap[b]? = some (.map #[⟨kV, spanV ⟨#[]⟩, 0⟩] 1)) (hs : CellsAt w ns ⟨#[]⟩) (ht : CellsAt w nt ⟨#[111, 116, 104, 101, 114]⟩) (hk : Kept (fun k => k = b) w0 w) :
  wpAnyH Try.prog .any ops5 Q (S5 ns nt) 4 #[true, true, true, true, true, true, true, true, true, true, true, true, true, true, true, true, false, false, false, false] ⟨#[x0, .pointer (some ⟨p, 0, none⟩), .pointer (some ⟨ns, 0, none⟩), .pointer (some ⟨nt, 0, none⟩), x4, x5, x6, x7, x8, x9, x10, x11, x12, x13, .pointer (some ⟨p, 0, none⟩), .agg #[.int .i64 3, .int .i64 1, .int .i64 0, .string ⟨#[97]⟩, .string ⟨#[104]⟩, .int .i64 10, .int .i64 0, .string ⟨#[]⟩], x16, .int .i64 1, .pointer (some ⟨p, 0, none⟩), .agg #[.int .i64 3, .int .i64 1, .int .i64 0, .string ⟨#[97]⟩, .string ⟨#[104]⟩, .int .i64 10, .int .i64 0, .string ⟨#[111, 116, 104, 101, 114]⟩], x20, .int .i64 0, .pointer (some ⟨p, 0, none⟩), .agg #[.int .i64 3, .int .i64 1, .int .i64 0, .string ⟨#[97]⟩, .string ⟨#[104]⟩, .int .i64 10, .int .i64 0, .string ⟨#[111, 116, 104, 101, 114]⟩], x24, .int .i64 0, .pointer (some ⟨p, 0, none⟩), .agg #[.int .i64 3, .int .i64 1, .int .i64 0, .string ⟨#[97]⟩, .string ⟨#[104]⟩, .int .i64 10, .int .i64 0, .string ⟨#[111, 116, 104, 101, 114]⟩], x28, .int .i64 0, x30, x31, x32, x33, x34, x35, x36, x37, x38, x39, x40, x41, x42, x43, x44, x45, x46, x47, x48, x49, x50, x51, x52, x53, x54, x55, x56, x57, x58, x59, x60, x61, x62, x63, x64, x65, x66, x67, x68, x69, x70, x71], []⟩ w := by
 refine wpAnyH_take (i := 16) (v := ?_) at5_16 (by kernel_rfl) (by kernel_rfl) (by kernel_rfl) (fun _ _ _ h => HQ _ _ _ _ _ h) (Or.inl ⟨by rfl, ?_⟩) ⟨hs, ht⟩ ?_
 case refine_2 => (intro w hSw; go_simp; all_goals (with_reducible rfl))
 (try simp only [Act.put]); try simp only [z2, List.set]
 refine wpAnyH_take (i := 17) (v := ?_) at5_17 (by kernel_rfl) (by kernel_rfl) (by kernel_rfl) (fun _ _ _ h => HQ _ _ _ _ _ h) (Or.inl ⟨by rfl, ?_⟩) ⟨hs, ht⟩ ?_
 case refine_2 => (intro w hSw; go_simp; all_goals (with_reducible rfl))
 (try simp only [Act.put]); try simp only [z2, List.set]
 refine wpAnyH_take (i := 18) (v := ?_) at5_18 (by kernel_rfl) (by kernel_rfl) (by kernel_rfl) (fun _ _ _ h => HQ _ _ _ _ _ h) (Or.inl ⟨by rfl, ?_⟩) ⟨hs, ht⟩ ?_
 case refine_2 => (intro w hSw; go_simp; all_goals (with_reducible rfl))
 (try simp only [Act.put]); try simp only [z2, List.set]
 refine wpAnyH_take (i := 19) (v := ?_) at5_19 (by kernel_rfl) (by kernel_rfl) (by kernel_rfl) (fun _ _ _ h => HQ _ _ _ _ _ h) (Or.inl ⟨by rfl, ?_⟩) ⟨hs, ht⟩ ?_
 case refine_2 => (intro w hSw; go_simp; all_goals (with_reducible rfl))
 (try simp only [Act.put]); try simp only [z2, List.set]
 refine wpAnyH_done (by kernel_rfl) ?_ _
 exact FIN _ _ _ _ _ _ _ _ _ _ _ _ _ _ _ _ _ _ _ _ _ _ _ _ _ _ _ _ _ _ _ _ _ _ _ _ _ _ _ _ _ _ _ _ _ _ _ _ _ _ _ _ _ w hp hb hs hk
set_option maxHeartbeats 4000000 in
set_option maxRecDepth 100000 in
theorem st3_3 (HQ : HQ5 Q) (FIN : FIN5 Q p b ns nt w0)
  (x0 x4 x5 x6 x7 x8 x9 x10 x11 x12 x13 x16 x20 x24 x29 x30 x31 x32 x33 x34 x35 x36 x37 x38 x39 x40 x41 x42 x43 x44 x45 x46 x47 x48 x49 x50 x51 x52 x53 x54 x55 x56 x57 x58 x59 x60 x61 x62 x63 x64 x65 x66 x67 x68 x69 x70 x71 : Value) (g3 : Nat) (w : World) (hp : w.cell? ⟨p, 0, none⟩ = some (.map (some b))) (hb : w.heap[b]? = some (.map #[⟨kV, spanV ⟨#[]⟩, 0⟩] 1)) (hs : CellsAt w ns ⟨#[]⟩) (ht : CellsAt w nt ⟨#[111, 116, 104, 101, 114]⟩) (hk : Kept (fun k => k = b) w0 w) (c3 : CellsAt w g3 ⟨#[111, 116, 104, 101, 114]⟩) :
  wpAnyH Try.prog .any ops5 Q (S5 ns nt) 5 #[true, true, true, true, true, true, true, true, true, true, true, true, true, true, true, false, false, false, false, false] ⟨#[x0, .pointer (some ⟨p, 0, none⟩), .pointer (some ⟨ns, 0, none⟩), .pointer (some ⟨nt, 0, none⟩), x4, x5, x6, x7, x8, x9, x10, x11, x12, x13, .pointer (some ⟨p, 0, none⟩), .agg #[.int .i64 3, .int .i64 1, .int .i64 0, .string ⟨#[97]⟩, .string ⟨#[104]⟩, .int .i64 10, .int .i64 0, .string ⟨#[]⟩], x16, .int .i64 1, .pointer (some ⟨p, 0, none⟩), .agg #[.int .i64 3, .int .i64 1, .int .i64 0, .string ⟨#[97]⟩, .string ⟨#[104]⟩, .int .i64 10, .int .i64 0, .string ⟨#[111, 116, 104, 101, 114]⟩], x20, .int .i64 0, .pointer (some ⟨p, 0, none⟩), .agg #[.int .i64 3, .int .i64 1, .int .i64 0, .string ⟨#[97]⟩, .string ⟨#[104]⟩, .int .i64 10, .int .i64 0, .string ⟨#[111, 116, 104, 101, 114]⟩], x24, .int .i64 0, .pointer (some ⟨p, 0, none⟩), .agg #[.int .i64 3, .int .i64 1, .int .i64 0, .string ⟨#[97]⟩, .string ⟨#[104]⟩, .int .i64 10, .int .i64 0, .string ⟨#[111, 116, 104, 101, 114]⟩], .slice (some ⟨g3, 0, none⟩) 1 1, x29, x30, x31, x32, x33, x34, x35, x36, x37, x38, x39, x40, x41, x42, x43, x44, x45, x46, x47, x48, x49, x50, x51, x52, x53, x54, x55, x56, x57, x58, x59, x60, x61, x62, x63, x64, x65, x66, x67, x68, x69, x70, x71], []⟩ w := by
 have HP := Lib.hid hp; have HB := Lib.hid hb; have HS := Lib.hid hs; have HT := Lib.hid ht; have HK := Lib.hid hk
 have C3 := Lib.hid c3
 clear hp hb hs ht hk c3
 refine wpAnyH_ready (rs := [15]) (by kernel_rfl) (by simp) ?_
 refine AllReadyH.cons at5_15 (fun K hK => ?_) AllReadyH.nil
 ·go_simp
  go_at_call 9
  refine (take_old (n := ⟨#[111, 116, 104, 101, 114]⟩) (e := ⟨#[]⟩) 70 (by omega) (by omega) (by decide) ⟨HP.out, HB.out⟩ C3.out).mono ?_
  rintro e w' ⟨rfl, kk⟩
  dsimp only
  refine hK.out _ _ ⟨(HS.out.keptF kk), (HT.out.keptF kk)⟩ (fun _ => ?_)
  (try simp only [Act.put]); try simp only [z2, List.set]
  exact st4_ HQ FIN _ _ _ _ _ _ _ _ _ _ _ _ _ _ _ _ _ _ _ _ _ _ _ _ _ _ _ _ _ _ _ _ _ _ _ _ _ _ _ _ _ _ _ _ _ _ _ _ _ _ _ _ _ _ _ _ _  _ (kk.cell HP.out (fun f => f)) ((kk.block b (Array.getElem?_eq_some_iff.1 HB.out).1 (fun f => f)).trans HB.out) (HS.out.keptF kk) (HT.out.keptF kk) (HK.out.trans kk (fun _ _ h => h) (fun _ _ f => f.elim))
set_option maxHeartbeats 4000000 in
set_option maxRecDepth 100000 in
theorem st2_23 (HQ : HQ5 Q) (FIN : FIN5 Q p b ns nt w0)
  (x0 x4 x5 x6 x7 x8 x9 x10 x11 x12 x13 x16 x20 x25 x29 x30 x31 x32 x33 x34 x35 x36 x37 x38 x39 x40 x41 x42 x43 x44 x45 x46 x47 x48 x49 x50 x51 x52 x53 x54 x55 x56 x57 x58 x59 x60 x61 x62 x63 x64 x65 x66 x67 x68 x69 x70 x71 : Value) (g2 g3 : Nat) (w : World) (hp : w.cell? ⟨p, 0, none⟩ = some (.map (some b))) (hb : w.heap[b]? = some (.map #[⟨kV, spanV ⟨#[]⟩, 0⟩] 1)) (hs : CellsAt w ns ⟨#[]⟩) (ht : CellsAt w nt ⟨#[111, 116, 104, 101, 114]⟩) (hk : Kept (fun k => k = b) w0 w) (c2 : CellsAt w g2 ⟨#[111, 116, 104, 101, 114]⟩) (c3 : CellsAt w g3 ⟨#[111, 116, 104, 101, 114]⟩) :
  wpAnyH Try.prog .any ops5 Q (S5 ns nt) 6 #[true, true, true, true, true, true, true, true, true, true, true, false, true, true, true, false, false, false, false, false] ⟨#[x0, .pointer (some ⟨p, 0, none⟩), .pointer (some ⟨ns, 0, none⟩), .pointer (some ⟨nt, 0, none⟩), x4, x5, x6, x7, x8, x9, x10, x11, x12, x13, .pointer (some ⟨p, 0, none⟩), .agg #[.int .i64 3, .int .i64 1, .int .i64 0, .string ⟨#[97]⟩, .string ⟨#[104]⟩, .int .i64 10, .int .i64 0, .string ⟨#[]⟩], x16, .int .i64 1, .pointer (some ⟨p, 0, none⟩), .agg #[.int .i64 3, .int .i64 1, .int .i64 0, .string ⟨#[97]⟩, .string ⟨#[104]⟩, .int .i64 10, .int .i64 0, .string ⟨#[111, 116, 104, 101, 114]⟩], x20, .int .i64 0, .pointer (some ⟨p, 0, none⟩), .agg #[.int .i64 3, .int .i64 1, .int .i64 0, .string ⟨#[97]⟩, .string ⟨#[104]⟩, .int .i64 10, .int .i64 0, .string ⟨#[111, 116, 104, 101, 114]⟩], .slice (some ⟨g2, 0, none⟩) 1 1, x25, .pointer (some ⟨p, 0, none⟩), .agg #[.int .i64 3, .int .i64 1, .int .i64 0, .string ⟨#[97]⟩, .string ⟨#[104]⟩, .int .i64 10, .int .i64 0, .string ⟨#[111, 116, 104, 101, 114]⟩], .slice (some ⟨g3, 0, none⟩) 1 1, x29, x30, x31, x32, x33, x34, x35, x36, x37, x38, x39, x40, x41, x42, x43, x44, x45, x46, x47, x48, x49, x50, x51, x52, x53, x54, x55, x56, x57, x58, x59, x60, x61, x62, x63, x64, x65, x66, x67, x68, x69, x70, x71], []⟩ w := by
 have HP := Lib.hid hp; have HB := Lib.hid hb; have HS := Lib.hid hs; have HT := Lib.hid ht; have HK := Lib.hid hk
 have C2 := Lib.hid c2
 have C3 := Lib.hid c3
 clear hp hb hs ht hk c2 c3
 refine wpAnyH_ready (rs := [11]) (by kernel_rfl) (by simp) ?_
 refine AllReadyH.cons at5_11 (fun K hK => ?_) AllReadyH.nil
 ·go_simp
  go_at_call 9
  refine (take_old (n := ⟨#[111, 116, 104, 101, 114]⟩) (e := ⟨#[]⟩) 69 (by omega) (by omega) (by decide) ⟨HP.out, HB.out⟩ C2.out).mono ?_
  rintro e w' ⟨rfl, kk⟩
  dsimp only
  refine hK.out _ _ ⟨(HS.out.keptF kk), (HT.out.keptF kk)⟩ (fun _ => ?_)
  (try simp only [Act.put]); try simp only [z2, List.set]
  exact st3_3 HQ FIN _ _ _ _ _ _ _ _ _ _ _ _ _ _ _ _ _ _ _ _ _ _ _ _ _ _ _ _ _ _ _ _ _ _ _ _ _ _ _ _ _ _ _ _ _ _ _ _ _ _ _ _ _ _ _ _ _ g3 _ (kk.cell HP.out (fun f => f)) ((kk.block b (Array.getElem?_eq_some_iff.1 HB.out).1 (fun f => f)).trans HB.out) (HS.out.keptF kk) (HT.out.keptF kk) (HK.out.trans kk (fun _ _ h => h) (fun _ _ f => f.elim)) (C3.out.keptF kk)
set_option maxHeartbeats 4000000 in
set_option maxRecDepth 100000 in
theorem st3_ (HQ : HQ5 Q) (FIN : FIN5 Q p b ns nt w0)
  (x0 x4 x5 x6 x7 x8 x9 x10 x11 x12 x13 x16 x20 x24 x28 x29 x30 x31 x32 x33 x34 x35 x36 x37 x38 x39 x40 x41 x42 x43 x44 x45 x46 x47 x48 x49 x50 x51 x52 x53 x54 x55 x56 x57 x58 x59 x60 x61 x62 x63 x64 x65 x66 x67 x68 x69 x70 x71 : Value) (w : World) (hp : w.cell? ⟨p, 0, none⟩ = some (.map (some b))) (hb : w.heap[b]? = some (.map #[⟨kV, spanV ⟨#[]⟩, 0⟩] 1)) (hs : CellsAt w ns ⟨#[]⟩) (ht : CellsAt w nt ⟨#[111, 116, 104, 101, 114]⟩) (hk : Kept (fun k => k = b) w0 w) :
  wpAnyH Try.prog .any ops5 Q (S5 ns nt) 6 #[true, true, true, true, true, true, true, true, true, true, true, true, true, true, false, false, false, false, false, false] ⟨#[x0, .pointer (some ⟨p, 0, none⟩), .pointer (some ⟨ns, 0, none⟩), .pointer (some ⟨nt, 0, none⟩), x4, x5, x6, x7, x8, x9, x10, x11, x12, x13, .pointer (some ⟨p, 0, none⟩), .agg #[.int .i64 3, .int .i64 1, .int .i64 0, .string ⟨#[97]⟩, .string ⟨#[104]⟩, .int .i64 10, .int .i64 0, .string ⟨#[]⟩], x16, .int .i64 1, .pointer (some ⟨p, 0, none⟩), .agg #[.int .i64 3, .int .i64 1, .int .i64 0, .string ⟨#[97]⟩, .string ⟨#[104]⟩, .int .i64 10, .int .i64 0, .string ⟨#[111, 116, 104, 101, 114]⟩], x20, .int .i64 0, .pointer (some ⟨p, 0, none⟩), .agg #[.int .i64 3, .int .i64 1, .int .i64 0, .string ⟨#[97]⟩, .string ⟨#[104]⟩, .int .i64 10, .int .i64 0, .string ⟨#[111, 116, 104, 101, 114]⟩], x24, .int .i64 0, .pointer (some ⟨p, 0, none⟩), .agg #[.int .i64 3, .int .i64 1, .int .i64 0, .string ⟨#[97]⟩, .string ⟨#[104]⟩, .int .i64 10, .int .i64 0, .string ⟨#[111, 116, 104, 101, 114]⟩], x28, x29, x30, x31, x32, x33, x34, x35, x36, x37, x38, x39, x40, x41, x42, x43, x44, x45, x46, x47, x48, x49, x50, x51, x52, x53, x54, x55, x56, x57, x58, x59, x60, x61, x62, x63, x64, x65, x66, x67, x68, x69, x70, x71], []⟩ w := by
 have HP := Lib.hid hp; have HB := Lib.hid hb; have HS := Lib.hid hs; have HT := Lib.hid ht; have HK := Lib.hid hk
 clear hp hb hs ht hk
 refine wpAnyH_ready (rs := [14]) (by kernel_rfl) (by simp) ?_
 refine AllReadyH.cons at5_14 (fun K hK => ?_) AllReadyH.nil
 ·go_simp
  have kk := ((Kept.refl (fun _ => False) w).alloc (.cells #[.int .i64 3, .int .i64 1, .int .i64 0, .string ⟨#[97]⟩, .string ⟨#[104]⟩, .int .i64 10, .int .i64 0, .string ⟨#[111, 116, 104, 101, 114]⟩] 37))
  refine hK.out _ _ ⟨HS.out.keptF kk, HT.out.keptF kk⟩ (fun _ => ?_)
  (try simp only [Act.put]); try simp only [z2, List.set]
  exact st3_3 HQ FIN _ _ _ _ _ _ _ _ _ _ _ _ _ _ _ _ _ _ _ _ _ _ _ _ _ _ _ _ _ _ _ _ _ _ _ _ _ _ _ _ _ _ _ _ _ _ _ _ _ _ _ _ _ _ _ _ _ w.heap.size _ (kk.cell HP.out (fun f => f)) ((kk.block b (Array.getElem?_eq_some_iff.1 HB.out).1 (fun f => f)).trans HB.out) (HS.out.keptF kk) (HT.out.keptF kk) (HK.out.alloc _) CellsAt.new
set_option maxHeartbeats 4000000 in
set_option maxRecDepth 100000 in
theorem st1_123 (HQ : HQ5 Q) (FIN : FIN5 Q p b ns nt w0)
  (x0 x4 x5 x6 x7 x8 x9 x10 x11 x12 x13 x16 x21 x25 x29 x30 x31 x32 x33 x34 x35 x36 x37 x38 x39 x40 x41 x42 x43 x44 x45 x46 x47 x48 x49 x50 x51 x52 x53 x54 x55 x56 x57 x58 x59 x60 x61 x62 x63 x64 x65 x66 x67 x68 x69 x70 x71 : Value) (g1 g2 g3 : Nat) (w : World) (hp : w.cell? ⟨p, 0, none⟩ = some (.map (some b))) (hb : w.heap[b]? = some (.map #[⟨kV, spanV ⟨#[]⟩, 0⟩] 1)) (hs : CellsAt w ns ⟨#[]⟩) (ht : CellsAt w nt ⟨#[111, 116, 104, 101, 114]⟩) (hk : Kept (fun k => k = b) w0 w) (c1 : CellsAt w g1 ⟨#[111, 116, 104, 101, 114]⟩) (c2 : CellsAt w g2 ⟨#[111, 116, 104, 101, 114]⟩) (c3 : CellsAt w g3 ⟨#[111, 116, 104, 101, 114]⟩) :
  wpAnyH Try.prog .any ops5 Q (S5 ns nt) 7 #[true, true, true, true, true, true, true, false, true, true, true, false, true, true, true, false, false, false, false, false] ⟨#[x0, .pointer (some ⟨p, 0, none⟩), .pointer (some ⟨ns, 0, none⟩), .pointer (some ⟨nt, 0, none⟩), x4, x5, x6, x7, x8, x9, x10, x11, x12, x13, .pointer (some ⟨p, 0, none⟩), .agg #[.int .i64 3, .int .i64 1, .int .i64 0, .string ⟨#[97]⟩, .string ⟨#[104]⟩, .int .i64 10, .int .i64 0, .string ⟨#[]⟩], x16, .int .i64 1, .pointer (some ⟨p, 0, none⟩), .agg #[.int .i64 3, .int .i64 1, .int .i64 0, .string ⟨#[97]⟩, .string ⟨#[104]⟩, .int .i64 10, .int .i64 0, .string ⟨#[111, 116, 104, 101, 114]⟩], .slice (some ⟨g1, 0, none⟩) 1 1, x21, .pointer (some ⟨p, 0, none⟩), .agg #[.int .i64 3, .int .i64 1, .int .i64 0, .string ⟨#[97]⟩, .string ⟨#[104]⟩, .int .i64 10, .int .i64 0, .string ⟨#[111, 116, 104, 101, 114]⟩], .slice (some ⟨g2, 0, none⟩) 1 1, x25, .pointer (some ⟨p, 0, none⟩), .agg #[.int .i64 3, .int .i64 1, .int .i64 0, .string ⟨#[97]⟩, .string ⟨#[104]⟩, .int .i64 10, .int .i64 0, .string ⟨#[111, 116, 104, 101, 114]⟩], .slice (some ⟨g3, 0, none⟩) 1 1, x29, x30, x31, x32, x33, x34, x35, x36, x37, x38, x39, x40, x41, x42, x43, x44, x45, x46, x47, x48, x49, x50, x51, x52, x53, x54, x55, x56, x57, x58, x59, x60, x61, x62, x63, x64, x65, x66, x67, x68, x69, x70, x71], []⟩ w := by
 have HP := Lib.hid hp; have HB := Lib.hid hb; have HS := Lib.hid hs; have HT := Lib.hid ht; have HK := Lib.hid hk
 have C1 := Lib.hid c1
 have C2 := Lib.hid c2
 have C3 := Lib.hid c3
 clear hp hb hs ht hk c1 c2 c3
 refine wpAnyH_ready (rs := [7]) (by kernel_rfl) (by simp) ?_
 refine AllReadyH.cons at5_7 (fun K hK => ?_) AllReadyH.nil
 ·go_simp
  go_at_call 9
  refine (take_old (n := ⟨#[111, 116, 104, 101, 114]⟩) (e := ⟨#[]⟩) 20 (by omega) (by omega) (by decide) ⟨HP.out, HB.out⟩ C1.out).mono ?_
  rintro e w' ⟨rfl, kk⟩
  dsimp only
  refine hK.out _ _ ⟨(HS.out.keptF kk), (HT.out.keptF kk)⟩ (fun _ => ?_)
  (try simp only [Act.put]); try simp only [z2, List.set]
  exact st2_23 HQ FIN _ _ _ _ _ _ _ _ _ _ _ _ _ _ _ _ _ _ _ _ _ _ _ _ _ _ _ _ _ _ _ _ _ _ _ _ _ _ _ _ _ _ _ _ _ _ _ _ _ _ _ _ _ _ _ _ _ g2 g3 _ (kk.cell HP.out (fun f => f)) ((kk.block b (Array.getElem?_eq_some_iff.1 HB.out).1 (fun f => f)).trans HB.out) (HS.out.keptF kk) (HT.out.keptF kk) (HK.out.trans kk (fun _ _ h => h) (fun _ _ f => f.elim)) (C2.out.keptF kk) (C3.out.keptF kk)
set_option maxHeartbeats 4000000 in
set_option maxRecDepth 100000 in
theorem st2_2 (HQ : HQ5 Q) (FIN : FIN5 Q p b ns nt w0)
  (x0 x4 x5 x6 x7 x8 x9 x10 x11 x12 x13 x16 x20 x25 x28 x29 x30 x31 x32 x33 x34 x35 x36 x37 x38 x39 x40 x41 x42 x43 x44 x45 x46 x47 x48 x49 x50 x51 x52 x53 x54 x55 x56 x57 x58 x59 x60 x61 x62 x63 x64 x65 x66 x67 x68 x69 x70 x71 : Value) (g2 : Nat) (w : World) (hp : w.cell? ⟨p, 0, none⟩ = some (.map (some b))) (hb : w.heap[b]? = some (.map #[⟨kV, spanV ⟨#[]⟩, 0⟩] 1)) (hs : CellsAt w ns ⟨#[]⟩) (ht : CellsAt w nt ⟨#[111, 116, 104, 101, 114]⟩) (hk : Kept (fun k => k = b) w0 w) (c2 : CellsAt w g2 ⟨#[111, 116, 104, 101, 114]⟩) :
  wpAnyH Try.prog .any ops5 Q (S5 ns nt) 7 #[true, true, true, true, true, true, true, true, true, true, true, false, true, true, false, false, false, false, false, false] ⟨#[x0, .pointer (some ⟨p, 0, none⟩), .pointer (some ⟨ns, 0, none⟩), .pointer (some ⟨nt, 0, none⟩), x4, x5, x6, x7, x8, x9, x10, x11, x12, x13, .pointer (some ⟨p, 0, none⟩), .agg #[.int .i64 3, .int .i64 1, .int .i64 0, .string ⟨#[97]⟩, .string ⟨#[104]⟩, .int .i64 10, .int .i64 0, .string ⟨#[]⟩], x16, .int .i64 1, .pointer (some ⟨p, 0, none⟩), .agg #[.int .i64 3, .int .i64 1, .int .i64 0, .string ⟨#[97]⟩, .string ⟨#[104]⟩, .int .i64 10, .int .i64 0, .string ⟨#[111, 116, 104, 101, 114]⟩], x20, .int .i64 0, .pointer (some ⟨p, 0, none⟩), .agg #[.int .i64 3, .int .i64 1, .int .i64 0, .string ⟨#[97]⟩, .string ⟨#[104]⟩, .int .i64 10, .int .i64 0, .string ⟨#[111, 116, 104, 101, 114]⟩], .slice (some ⟨g2, 0, none⟩) 1 1, x25, .pointer (some ⟨p, 0, none⟩), .agg #[.int .i64 3, .int .i64 1, .int .i64 0, .string ⟨#[97]⟩, .string ⟨#[104]⟩, .int .i64 10, .int .i64 0, .string ⟨#[111, 116, 104, 101, 114]⟩], x28, x29, x30, x31, x32, x33, x34, x35, x36, x37, x38, x39, x40, x41, x42, x43, x44, x45, x46, x47, x48, x49, x50, x51, x52, x53, x54, x55, x56, x57, x58, x59, x60, x61, x62, x63, x64, x65, x66, x67, x68, x69, x70, x71], []⟩ w := by
 have HP := Lib.hid hp; have HB := Lib.hid hb; have HS := Lib.hid hs; have HT := Lib.hid ht; have HK := Lib.hid hk
 have C2 := Lib.hid c2
 clear hp hb hs ht hk c2
 refine wpAnyH_ready (rs := [11, 14]) (by kernel_rfl) (by simp) ?_
 refine AllReadyH.cons at5_11 (fun K hK => ?_) ?_
 ·go_simp
  go_at_call 9
  refine (take_old (n := ⟨#[111, 116, 104, 101, 114]⟩) (e := ⟨#[]⟩) 69 (by omega) (by omega) (by decide) ⟨HP.out, HB.out⟩ C2.out).mono ?_
  rintro e w' ⟨rfl, kk⟩
  dsimp only
  refine hK.out _ _ ⟨(HS.out.keptF kk), (HT.out.keptF kk)⟩ (fun _ => ?_)
  (try simp only [Act.put]); try simp only [z2, List.set]
  exact st3_ HQ FIN _ _ _ _ _ _ _ _ _ _ _ _ _ _ _ _ _ _ _ _ _ _ _ _ _ _ _ _ _ _ _ _ _ _ _ _ _ _ _ _ _ _ _ _ _ _ _ _ _ _ _ _ _ _ _ _ _ _  _ (kk.cell HP.out (fun f => f)) ((kk.block b (Array.getElem?_eq_some_iff.1 HB.out).1 (fun f => f)).trans HB.out) (HS.out.keptF kk) (HT.out.keptF kk) (HK.out.trans kk (fun _ _ h => h) (fun _ _ f => f.elim))
 refine AllReadyH.cons at5_14 (fun K hK => ?_) AllReadyH.nil
 ·go_simp
  have kk := ((Kept.refl (fun _ => False) w).alloc (.cells #[.int .i64 3, .int .i64 1, .int .i64 0, .string ⟨#[97]⟩, .string ⟨#[104]⟩, .int .i64 10, .int .i64 0, .string ⟨#[111, 116, 104, 101, 114]⟩] 37))
  refine hK.out _ _ ⟨HS.out.keptF kk, HT.out.keptF kk⟩ (fun _ => ?_)
  (try simp only [Act.put]); try simp only [z2, List.set]
  exact st2_23 HQ FIN _ _ _ _ _ _ _ _ _ _ _ _ _ _ _ _ _ _ _ _ _ _ _ _ _ _ _ _ _ _ _ _ _ _ _ _ _ _ _ _ _ _ _ _ _ _ _ _ _ _ _ _ _ _ _ _ _ g2 w.heap.size _ (kk.cell HP.out (fun f => f)) ((kk.block b (Array.getElem?_eq_some_iff.1 HB.out).1 (fun f => f)).trans HB.out) (HS.out.keptF kk) (HT.out.keptF kk) (HK.out.alloc _) (C2.out.keptF kk) CellsAt.new
set_option maxHeartbeats 4000000 in
set_option maxRecDepth 100000 in
theorem st2_3 (HQ : HQ5 Q) (FIN : FIN5 Q p b ns nt w0)
  (x0 x4 x5 x6 x7 x8 x9 x10 x11 x12 x13 x16 x20 x24 x25 x29 x30 x31 x32 x33 x34 x35 x36 x37 x38 x39 x40 x41 x42 x43 x44 x45 x46 x47 x48 x49 x50 x51 x52 x53 x54 x55 x56 x57 x58 x59 x60 x61 x62 x63 x64 x65 x66 x67 x68 x69 x70 x71 : Value) (g3 : Nat) (w : World) (hp : w.cell? ⟨p, 0, none⟩ = some (.map (some b))) (hb : w.heap[b]? = some (.map #[⟨kV, spanV ⟨#[]⟩, 0⟩] 1)) (hs : CellsAt w ns ⟨#[]⟩) (ht : CellsAt w nt ⟨#[111, 116, 104, 101, 114]⟩) (hk : Kept (fun k => k = b) w0 w) (c3 : CellsAt w g3 ⟨#[111, 116, 104, 101, 114]⟩) :
  wpAnyH Try.prog .any ops5 Q (S5 ns nt) 7 #[true, true, true, true, true, true, true, true, true, true, false, false, true, true, true, false, false, false, false, false] ⟨#[x0, .pointer (some ⟨p, 0, none⟩), .pointer (some ⟨ns, 0, none⟩), .pointer (some ⟨nt, 0, none⟩), x4, x5, x6, x7, x8, x9, x10, x11, x12, x13, .pointer (some ⟨p, 0, none⟩), .agg #[.int .i64 3, .int .i64 1, .int .i64 0, .string ⟨#[97]⟩, .string ⟨#[104]⟩, .int .i64 10, .int .i64 0, .string ⟨#[]⟩], x16, .int .i64 1, .pointer (some ⟨p, 0, none⟩), .agg #[.int .i64 3, .int .i64 1, .int .i64 0, .string ⟨#[97]⟩, .string ⟨#[104]⟩, .int .i64 10, .int .i64 0, .string ⟨#[111, 116, 104, 101, 114]⟩], x20, .int .i64 0, .pointer (some ⟨p, 0, none⟩), .agg #[.int .i64 3, .int .i64 1, .int .i64 0, .string ⟨#[97]⟩, .string ⟨#[104]⟩, .int .i64 10, .int .i64 0, .string ⟨#[111, 116, 104, 101, 114]⟩], x24, x25, .pointer (some ⟨p, 0, none⟩), .agg #[.int .i64 3, .int .i64 1, .int .i64 0, .string ⟨#[97]⟩, .string ⟨#[104]⟩, .int .i64 10, .int .i64 0, .string ⟨#[111, 116, 104, 101, 114]⟩], .slice (some ⟨g3, 0, none⟩) 1 1, x29, x30, x31, x32, x33, x34, x35, x36, x37, x38, x39, x40, x41, x42, x43, x44, x45, x46, x47, x48, x49, x50, x51, x52, x53, x54, x55, x56, x57, x58, x59, x60, x61, x62, x63, x64, x65, x66, x67, x68, x69, x70, x71], []⟩ w := by
 have HP := Lib.hid hp; have HB := Lib.hid hb; have HS := Lib.hid hs; have HT := Lib.hid ht; have HK := Lib.hid hk
 have C3 := Lib.hid c3
 clear hp hb hs ht hk c3
 refine wpAnyH_ready (rs := [10]) (by kernel_rfl) (by simp) ?_
 refine AllReadyH.cons at5_10 (fun K hK => ?_) AllReadyH.nil
 ·go_simp
  have kk := ((Kept.refl (fun _ => False) w).alloc (.cells #[.int .i64 3, .int .i64 1, .int .i64 0, .string ⟨#[97]⟩, .string ⟨#[104]⟩, .int .i64 10, .int .i64 0, .string ⟨#[111, 116, 104, 101, 114]⟩] 37))
  refine hK.out _ _ ⟨HS.out.keptF kk, HT.out.keptF kk⟩ (fun _ => ?_)
  (try simp only [Act.put]); try simp only [z2, List.set]
  exact st2_23 HQ FIN _ _ _ _ _ _ _ _ _ _ _ _ _ _ _ _ _ _ _ _ _ _ _ _ _ _ _ _ _ _ _ _ _ _ _ _ _ _ _ _ _ _ _ _ _ _ _ _ _ _ _ _ _ _ _ _ _ w.heap.size g3 _ (kk.cell HP.out (fun f => f)) ((kk.block b (Array.getElem?_eq_some_iff.1 HB.out).1 (fun f => f)).trans HB.out) (HS.out.keptF kk) (HT.out.keptF kk) (HK.out.alloc _) CellsAt.new (C3.out.keptF kk)
set_option maxHeartbeats 4000000 in
set_option maxRecDepth 100000 in
theorem st0_0123 (HQ : HQ5 Q) (FIN : FIN5 Q p b ns nt w0)
  (x0 x4 x5 x6 x7 x8 x9 x10 x11 x12 x13 x17 x21 x25 x29 x30 x31 x32 x33 x34 x35 x36 x37 x38 x39 x40 x41 x42 x43 x44 x45 x46 x47 x48 x49 x50 x51 x52 x53 x54 x55 x56 x57 x58 x59 x60 x61 x62 x63 x64 x65 x66 x67 x68 x69 x70 x71 : Value) (g0 g1 g2 g3 : Nat) (w : World) (hp : w.cell? ⟨p, 0, none⟩ = some (.map (some b))) (hb : w.heap[b]? = some (.map #[] 0)) (hs : CellsAt w ns ⟨#[]⟩) (ht : CellsAt w nt ⟨#[111, 116, 104, 101, 114]⟩) (hk : Kept (fun k => k = b) w0 w) (c0 : CellsAt w g0 ⟨#[]⟩) (c1 : CellsAt w g1 ⟨#[111, 116, 104, 101, 114]⟩) (c2 : CellsAt w g2 ⟨#[111, 116, 104, 101, 114]⟩) (c3 : CellsAt w g3 ⟨#[111, 116, 104, 101, 114]⟩) :
  wpAnyH Try.prog .any ops5 Q (S5 ns nt) 8 #[true, true, true, false, true, true, true, false, true, true, true, false, true, true, true, false, false, false, false, false] ⟨#[x0, .pointer (some ⟨p, 0, none⟩), .pointer (some ⟨ns, 0, none⟩), .pointer (some ⟨nt, 0, none⟩), x4, x5, x6, x7, x8, x9, x10, x11, x12, x13, .pointer (some ⟨p, 0, none⟩), .agg #[.int .i64 3, .int .i64 1, .int .i64 0, .string ⟨#[97]⟩, .string ⟨#[104]⟩, .int .i64 10, .int .i64 0, .string ⟨#[]⟩], .slice (some ⟨g0, 0, none⟩) 1 1, x17, .pointer (some ⟨p, 0, none⟩), .agg #[.int .i64 3, .int .i64 1, .int .i64 0, .string ⟨#[97]⟩, .string ⟨#[104]⟩, .int .i64 10, .int .i64 0, .string ⟨#[111, 116, 104, 101, 114]⟩], .slice (some ⟨g1, 0, none⟩) 1 1, x21, .pointer (some ⟨p, 0, none⟩), .agg #[.int .i64 3, .int .i64 1, .int .i64 0, .string ⟨#[97]⟩, .string ⟨#[104]⟩, .int .i64 10, .int .i64 0, .string ⟨#[111, 116, 104, 101, 114]⟩], .slice (some ⟨g2, 0, none⟩) 1 1, x25, .pointer (some ⟨p, 0, none⟩), .agg #[.int .i64 3, .int .i64 1, .int .i64 0, .string ⟨#[97]⟩, .string ⟨#[104]⟩, .int .i64 10, .int .i64 0, .string ⟨#[111, 116, 104, 101, 114]⟩], .slice (some ⟨g3, 0, none⟩) 1 1, x29, x30, x31, x32, x33, x34, x35, x36, x37, x38, x39, x40, x41, x42, x43, x44, x45, x46, x47, x48, x49, x50, x51, x52, x53, x54, x55, x56, x57, x58, x59, x60, x61, x62, x63, x64, x65, x66, x67, x68, x69, x70, x71], []⟩ w := by
 have HP := Lib.hid hp; have HB := Lib.hid hb; have HS := Lib.hid hs; have HT := Lib.hid ht; have HK := Lib.hid hk
 have C0 := Lib.hid c0
 have C1 := Lib.hid c1
 have C2 := Lib.hid c2
 have C3 := Lib.hid c3
 clear hp hb hs ht hk c0 c1 c2 c3
 refine wpAnyH_ready (rs := [3]) (by kernel_rfl) (by simp) ?_
 refine AllReadyH.cons at5_3 (fun K hK => ?_) AllReadyH.nil
 ·go_simp
  go_at_call 9
  refine (take_new (n := ⟨#[]⟩) 20 (by omega) (by omega) (by decide) HP.out HB.out C0.out).mono ?_
  rintro e w' ⟨rfl, kk, mm⟩
  dsimp only
  refine hK.out _ _ ⟨(HS.out.keptB HB.out kk), (HT.out.keptB HB.out kk)⟩ (fun _ => ?_)
  (try simp only [Act.put]); try simp only [z2, List.set]
  exact st1_123 HQ FIN _ _ _ _ _ _ _ _ _ _ _ _ _ _ _ _ _ _ _ _ _ _ _ _ _ _ _ _ _ _ _ _ _ _ _ _ _ _ _ _ _ _ _ _ _ _ _ _ _ _ _ _ _ _ _ _ _ g1 g2 g3 _ mm.cell mm.map (HS.out.keptB HB.out kk) (HT.out.keptB HB.out kk) (HK.out.trans kk (fun _ _ h => h) (fun _ _ h => h)) (C1.out.keptB HB.out kk) (C2.out.keptB HB.out kk) (C3.out.keptB HB.out kk)
set_option maxHeartbeats 4000000 in
set_option maxRecDepth 100000 in
theorem st1_12 (HQ : HQ5 Q) (FIN : FIN5 Q p b ns nt w0)
  (x0 x4 x5 x6 x7 x8 x9 x10 x11 x12 x13 x16 x21 x25 x28 x29 x30 x31 x32 x33 x34 x35 x36 x37 x38 x39 x40 x41 x42 x43 x44 x45 x46 x47 x48 x49 x50 x51 x52 x53 x54 x55 x56 x57 x58 x59 x60 x61 x62 x63 x64 x65 x66 x67 x68 x69 x70 x71 : Value) (g1 g2 : Nat) (w : World) (hp : w.cell? ⟨p, 0, none⟩ = some (.map (some b))) (hb : w.heap[b]? = some (.map #[⟨kV, spanV ⟨#[]⟩, 0⟩] 1)) (hs : CellsAt w ns ⟨#[]⟩) (ht : CellsAt w nt ⟨#[111, 116, 104, 101, 114]⟩) (hk : Kept (fun k => k = b) w0 w) (c1 : CellsAt w g1 ⟨#[111, 116, 104, 101, 114]⟩) (c2 : CellsAt w g2 ⟨#[111, 116, 104, 101, 114]⟩) :
  wpAnyH Try.prog .any ops5 Q (S5 ns nt) 8 #[true, true, true, true, true, true, true, false, true, true, true, false, true, true, false, false, false, false, false, false] ⟨#[x0, .pointer (some ⟨p, 0, none⟩), .pointer (some ⟨ns, 0, none⟩), .pointer (some ⟨nt, 0, none⟩), x4, x5, x6, x7, x8, x9, x10, x11, x12, x13, .pointer (some ⟨p, 0, none⟩), .agg #[.int .i64 3, .int .i64 1, .int .i64 0, .string ⟨#[97]⟩, .string ⟨#[104]⟩, .int .i64 10, .int .i64 0, .string ⟨#[]⟩], x16, .int .i64 1, .pointer (some ⟨p, 0, none⟩), .agg #[.int .i64 3, .int .i64 1, .int .i64 0, .string ⟨#[97]⟩, .string ⟨#[104]⟩, .int .i64 10, .int .i64 0, .string ⟨#[111, 116, 104, 101, 114]⟩], .slice (some ⟨g1, 0, none⟩) 1 1, x21, .pointer (some ⟨p, 0, none⟩), .agg #[.int .i64 3, .int .i64 1, .int .i64 0, .string ⟨#[97]⟩, .string ⟨#[104]⟩, .int .i64 10, .int .i64 0, .string ⟨#[111, 116, 104, 101, 114]⟩], .slice (some ⟨g2, 0, none⟩) 1 1, x25, .pointer (some ⟨p, 0, none⟩), .agg #[.int .i64 3, .int .i64 1, .int .i64 0, .string ⟨#[97]⟩, .string ⟨#[104]⟩, .int .i64 10, .int .i64 0, .string ⟨#[111, 116, 104, 101, 114]⟩], x28, x29, x30, x31, x32, x33, x34, x35, x36, x37, x38, x39, x40, x41, x42, x43, x44, x45, x46, x47, x48, x49, x50, x51, x52, x53, x54, x55, x56, x57, x58, x59, x60, x61, x62, x63, x64, x65, x66, x67, x68, x69, x70, x71], []⟩ w := by
 have HP := Lib.hid hp; have HB := Lib.hid hb; have HS := Lib.hid hs; have HT := Lib.hid ht; have HK := Lib.hid hk
 have C1 := Lib.hid c1
 have C2 := Lib.hid c2
 clear hp hb hs ht hk c1 c2
 refine wpAnyH_ready (rs := [7, 14]) (by kernel_rfl) (by simp) ?_
 refine AllReadyH.cons at5_7 (fun K hK => ?_) ?_
 ·go_simp
  go_at_call 9
  refine (take_old (n := ⟨#[111, 116, 104, 101, 114]⟩) (e := ⟨#[]⟩) 20 (by omega) (by omega) (by decide) ⟨HP.out, HB.out⟩ C1.out).mono ?_
  rintro e w' ⟨rfl, kk⟩
  dsimp only
  refine hK.out _ _ ⟨(HS.out.keptF kk), (HT.out.keptF kk)⟩ (fun _ => ?_)
  (try simp only [Act.put]); try simp only [z2, List.set]
  exact st2_2 HQ FIN _ _ _ _ _ _ _ _ _ _ _ _ _ _ _ _ _ _ _ _ _ _ _ _ _ _ _ _ _ _ _ _ _ _ _ _ _ _ _ _ _ _ _ _ _ _ _ _ _ _ _ _ _ _ _ _ _ _ g2 _ (kk.cell HP.out (fun f => f)) ((kk.block b (Array.getElem?_eq_some_iff.1 HB.out).1 (fun f => f)).trans HB.out) (HS.out.keptF kk) (HT.out.keptF kk) (HK.out.trans kk (fun _ _ h => h) (fun _ _ f => f.elim)) (C2.out.keptF kk)
 refine AllReadyH.cons at5_14 (fun K hK => ?_) AllReadyH.nil
 ·go_simp
  have kk := ((Kept.refl (fun _ => False) w).alloc (.cells #[.int .i64 3, .int .i64 1, .int .i64 0, .string ⟨#[97]⟩, .string ⟨#[104]⟩, .int .i64 10, .int .i64 0, .string ⟨#[111, 116, 104, 101, 114]⟩] 37))
  refine hK.out _ _ ⟨HS.out.keptF kk, HT.out.keptF kk⟩ (fun _ => ?_)
  (try simp only [Act.put]); try simp only [z2, List.set]
  exact st1_123 HQ FIN _ _ _ _ _ _ _ _ _ _ _ _ _ _ _ _ _ _ _ _ _ _ _ _ _ _ _ _ _ _ _ _ _ _ _ _ _ _ _ _ _ _ _ _ _ _ _ _ _ _ _ _ _ _ _ _ _ g1 g2 w.heap.size _ (kk.cell HP.out (fun f => f)) ((kk.block b (Array.getElem?_eq_some_iff.1 HB.out).1 (fun f => f)).trans HB.out) (HS.out.keptF kk) (HT.out.keptF kk) (HK.out.alloc _) (C1.out.keptF kk) (C2.out.keptF kk) CellsAt.new
set_option maxHeartbeats 4000000 in
set_option maxRecDepth 100000 in
theorem st1_13 (HQ : HQ5 Q) (FIN : FIN5 Q p b ns nt w0)
  (x0 x4 x5 x6 x7 x8 x9 x10 x11 x12 x13 x16 x21 x24 x25 x29 x30 x31 x32 x33 x34 x35 x36 x37 x38 x39 x40 x41 x42 x43 x44 x45 x46 x47 x48 x49 x50 x51 x52 x53 x54 x55 x56 x57 x58 x59 x60 x61 x62 x63 x64 x65 x66 x67 x68 x69 x70 x71 : Value) (g1 g3 : Nat) (w : World) (hp : w.cell? ⟨p, 0, none⟩ = some (.map (some b))) (hb : w.heap[b]? = some (.map #[⟨kV, spanV ⟨#[]⟩, 0⟩] 1)) (hs : CellsAt w ns ⟨#[]⟩) (ht : CellsAt w nt ⟨#[111, 116, 104, 101, 114]⟩) (hk : Kept (fun k => k = b) w0 w) (c1 : CellsAt w g1 ⟨#[111, 116, 104, 101, 114]⟩) (c3 : CellsAt w g3 ⟨#[111, 116, 104, 101, 114]⟩) :
  wpAnyH Try.prog .any ops5 Q (S5 ns nt) 8 #[true, true, true, true, true, true, true, false, true, true, false, false, true, true, true, false, false, false, false, false] ⟨#[x0, .pointer (some ⟨p, 0, none⟩), .pointer (some ⟨ns, 0, none⟩), .pointer (some ⟨nt, 0, none⟩), x4, x5, x6, x7, x8, x9, x10, x11, x12, x13, .pointer (some ⟨p, 0, none⟩), .agg #[.int .i64 3, .int .i64 1, .int .i64 0, .string ⟨#[97]⟩, .string ⟨#[104]⟩, .int .i64 10, .int .i64 0, .string ⟨#[]⟩], x16, .int .i64 1, .pointer (some ⟨p, 0, none⟩), .agg #[.int .i64 3, .int .i64 1, .int .i64 0, .string ⟨#[97]⟩, .string ⟨#[104]⟩, .int .i64 10, .int .i64 0, .string ⟨#[111, 116, 104, 101, 114]⟩], .slice (some ⟨g1, 0, none⟩) 1 1, x21, .pointer (some ⟨p, 0, none⟩), .agg #[.int .i64 3, .int .i64 1, .int .i64 0, .string ⟨#[97]⟩, .string ⟨#[104]⟩, .int .i64 10, .int .i64 0, .string ⟨#[111, 116, 104, 101, 114]⟩], x24, x25, .pointer (some ⟨p, 0, none⟩), .agg #[.int .i64 3, .int .i64 1, .int .i64 0, .string ⟨#[97]⟩, .string ⟨#[104]⟩, .int .i64 10, .int .i64 0, .string ⟨#[111, 116, 104, 101, 114]⟩], .slice (some ⟨g3, 0, none⟩) 1 1, x29, x30, x31, x32, x33, x34, x35, x36, x37, x38, x39, x40, x41, x42, x43, x44, x45, x46, x47, x48, x49, x50, x51, x52, x53, x54, x55, x56, x57, x58, x59, x60, x61, x62, x63, x64, x65, x66, x67, x68, x69, x70, x71], []⟩ w := by
 have HP := Lib.hid hp; have HB := Lib.hid hb; have HS := Lib.hid hs; have HT := Lib.hid ht; have HK := Lib.hid hk
 have C1 := Lib.hid c1
 have C3 := Lib.hid c3
 clear hp hb hs ht hk c1 c3
 refine wpAnyH_ready (rs := [7, 10]) (by kernel_rfl) (by simp) ?_
 refine AllReadyH.cons at5_7 (fun K hK => ?_) ?_
 ·go_simp
  go_at_call 9
  refine (take_old (n := ⟨#[111, 116, 104, 101, 114]⟩) (e := ⟨#[]⟩) 20 (by omega) (by omega) (by decide) ⟨HP.out, HB.out⟩ C1.out).mono ?_
  rintro e w' ⟨rfl, kk⟩
  dsimp only
  refine hK.out _ _ ⟨(HS.out.keptF kk), (HT.out.keptF kk)⟩ (fun _ => ?_)
  (try simp only [Act.put]); try simp only [z2, List.set]
  exact st2_3 HQ FIN _ _ _ _ _ _ _ _ _ _ _ _ _ _ _ _ _ _ _ _ _ _ _ _ _ _ _ _ _ _ _ _ _ _ _ _ _ _ _ _ _ _ _ _ _ _ _ _ _ _ _ _ _ _ _ _ _ _ g3 _ (kk.cell HP.out (fun f => f)) ((kk.block b (Array.getElem?_eq_some_iff.1 HB.out).1 (fun f => f)).trans HB.out) (HS.out.keptF kk) (HT.out.keptF kk) (HK.out.trans kk (fun _ _ h => h) (fun _ _ f => f.elim)) (C3.out.keptF kk)
 refine AllReadyH.cons at5_10 (fun K hK => ?_) AllReadyH.nil
 ·go_simp
  have kk := ((Kept.refl (fun _ => False) w).alloc (.cells #[.int .i64 3, .int .i64 1, .int .i64 0, .string ⟨#[97]⟩, .string ⟨#[104]⟩, .int .i64 10, .int .i64 0, .string ⟨#[111, 116, 104, 101, 114]⟩] 37))
  refine hK.out _ _ ⟨HS.out.keptF kk, HT.out.keptF kk⟩ (fun _ => ?_)
  (try simp only [Act.put]); try simp only [z2, List.set]
  exact st1_123 HQ FIN _ _ _ _ _ _ _ _ _ _ _ _ _ _ _ _ _ _ _ _ _ _ _ _ _ _ _ _ _ _ _ _ _ _ _ _ _ _ _ _ _ _ _ _ _ _ _ _ _ _ _ _ _ _ _ _ _ g1 w.heap.size g3 _ (kk.cell HP.out (fun f => f)) ((kk.block b (Array.getElem?_eq_some_iff.1 HB.out).1 (fun f => f)).trans HB.out) (HS.out.keptF kk) (HT.out.keptF kk) (HK.out.alloc _) (C1.out.keptF kk) CellsAt.new (C3.out.keptF kk)
set_option maxHeartbeats 4000000 in
set_option maxRecDepth 100000 in
theorem st1_23 (HQ : HQ5 Q) (FIN : FIN5 Q p b ns nt w0)
  (x0 x4 x5 x6 x7 x8 x9 x10 x11 x12 x13 x16 x20 x21 x25 x29 x30 x31 x32 x33 x34 x35 x36 x37 x38 x39 x40 x41 x42 x43 x44 x45 x46 x47 x48 x49 x50 x51 x52 x53 x54 x55 x56 x57 x58 x59 x60 x61 x62 x63 x64 x65 x66 x67 x68 x69 x70 x71 : Value) (g2 g3 : Nat) (w : World) (hp : w.cell? ⟨p, 0, none⟩ = some (.map (some b))) (hb : w.heap[b]? = some (.map #[⟨kV, spanV ⟨#[]⟩, 0⟩] 1)) (hs : CellsAt w ns ⟨#[]⟩) (ht : CellsAt w nt ⟨#[111, 116, 104, 101, 114]⟩) (hk : Kept (fun k => k = b) w0 w) (c2 : CellsAt w g2 ⟨#[111, 116, 104, 101, 114]⟩) (c3 : CellsAt w g3 ⟨#[111, 116, 104, 101, 114]⟩) :
  wpAnyH Try.prog .any ops5 Q (S5 ns nt) 8 #[true, true, true, true, true, true, false, false, true, true, true, false, true, true, true, false, false, false, false, false] ⟨#[x0, .pointer (some ⟨p, 0, none⟩), .pointer (some ⟨ns, 0, none⟩), .pointer (some ⟨nt, 0, none⟩), x4, x5, x6, x7, x8, x9, x10, x11, x12, x13, .pointer (some ⟨p, 0, none⟩), .agg #[.int .i64 3, .int .i64 1, .int .i64 0, .string ⟨#[97]⟩, .string ⟨#[104]⟩, .int .i64 10, .int .i64 0, .string ⟨#[]⟩], x16, .int .i64 1, .pointer (some ⟨p, 0, none⟩), .agg #[.int .i64 3, .int .i64 1, .int .i64 0, .string ⟨#[97]⟩, .string ⟨#[104]⟩, .int .i64 10, .int .i64 0, .string ⟨#[111, 116, 104, 101, 114]⟩], x20, x21, .pointer (some ⟨p, 0, none⟩), .agg #[.int .i64 3, .int .i64 1, .int .i64 0, .string ⟨#[97]⟩, .string ⟨#[104]⟩, .int .i64 10, .int .i64 0, .string ⟨#[111, 116, 104, 101, 114]⟩], .slice (some ⟨g2, 0, none⟩) 1 1, x25, .pointer (some ⟨p, 0, none⟩), .agg #[.int .i64 3, .int .i64 1, .int .i64 0, .string ⟨#[97]⟩, .string ⟨#[104]⟩, .int .i64 10, .int .i64 0, .string ⟨#[111, 116, 104, 101, 114]⟩], .slice (some ⟨g3, 0, none⟩) 1 1, x29, x30, x31, x32, x33, x34, x35, x36, x37, x38, x39, x40, x41, x42, x43, x44, x45, x46, x47, x48, x49, x50, x51, x52, x53, x54, x55, x56, x57, x58, x59, x60, x61, x62, x63, x64, x65, x66, x67, x68, x69, x70, x71], []⟩ w := by
 have HP := Lib.hid hp; have HB := Lib.hid hb; have HS := Lib.hid hs; have HT := Lib.hid ht; have HK := Lib.hid hk
 have C2 := Lib.hid c2
 have C3 := Lib.hid c3
 clear hp hb hs ht hk c2 c3
 refine wpAnyH_ready (rs := [6]) (by kernel_rfl) (by simp) ?_
 refine AllReadyH.cons at5_6 (fun K hK => ?_) AllReadyH.nil
 ·go_simp
  have kk := ((Kept.refl (fun _ => False) w).alloc (.cells #[.int .i64 3, .int .i64 1, .int .i64 0, .string ⟨#[97]⟩, .string ⟨#[104]⟩, .int .i64 10, .int .i64 0, .string ⟨#[111, 116, 104, 101, 114]⟩] 37))
  refine hK.out _ _ ⟨HS.out.keptF kk, HT.out.keptF kk⟩ (fun _ => ?_)
  (try simp only [Act.put]); try simp only [z2, List.set]
  exact st1_123 HQ FIN _ _ _ _ _ _ _ _ _ _ _ _ _ _ _ _ _ _ _ _ _ _ _ _ _ _ _ _ _ _ _ _ _ _ _ _ _ _ _ _ _ _ _ _ _ _ _ _ _ _ _ _ _ _ _ _ _ w.heap.size g2 g3 _ (kk.cell HP.out (fun f => f)) ((kk.block b (Array.getElem?_eq_some_iff.1 HB.out).1 (fun f => f)).trans HB.out) (HS.out.keptF kk) (HT.out.keptF kk) (HK.out.alloc _) CellsAt.new (C2.out.keptF kk) (C3.out.keptF kk)
set_option maxHeartbeats 4000000 in
set_option maxRecDepth 100000 in
theorem st2_ (HQ : HQ5 Q) (FIN : FIN5 Q p b ns nt w0)
  (x0 x4 x5 x6 x7 x8 x9 x10 x11 x12 x13 x16 x20 x24 x25 x28 x29 x30 x31 x32 x33 x34 x35 x36 x37 x38 x39 x40 x41 x42 x43 x44 x45 x46 x47 x48 x49 x50 x51 x52 x53 x54 x55 x56 x57 x58 x59 x60 x61 x62 x63 x64 x65 x66 x67 x68 x69 x70 x71 : Value) (w : World) (hp : w.cell? ⟨p, 0, none⟩ = some (.map (some b))) (hb : w.heap[b]? = some (.map #[⟨kV, spanV ⟨#[]⟩, 0⟩] 1)) (hs : CellsAt w ns ⟨#[]⟩) (ht : CellsAt w nt ⟨#[111, 116, 104, 101, 114]⟩) (hk : Kept (fun k => k = b) w0 w) :
  wpAnyH Try.prog .any ops5 Q (S5 ns nt) 8 #[true, true, true, true, true, true, true, true, true, true, false, false, true, true, false, false, false, false, false, false] ⟨#[x0, .pointer (some ⟨p, 0, none⟩), .pointer (some ⟨ns, 0, none⟩), .pointer (some ⟨nt, 0, none⟩), x4, x5, x6, x7, x8, x9, x10, x11, x12, x13, .pointer (some ⟨p, 0, none⟩), .agg #[.int .i64 3, .int .i64 1, .int .i64 0, .string ⟨#[97]⟩, .string ⟨#[104]⟩, .int .i64 10, .int .i64 0, .string ⟨#[]⟩], x16, .int .i64 1, .pointer (some ⟨p, 0, none⟩), .agg #[.int .i64 3, .int .i64 1, .int .i64 0, .string ⟨#[97]⟩, .string ⟨#[104]⟩, .int .i64 10, .int .i64 0, .string ⟨#[111, 116, 104, 101, 114]⟩], x20, .int .i64 0, .pointer (some ⟨p, 0, none⟩), .agg #[.int .i64 3, .int .i64 1, .int .i64 0, .string ⟨#[97]⟩, .string ⟨#[104]⟩, .int .i64 10, .int .i64 0, .string ⟨#[111, 116, 104, 101, 114]⟩], x24, x25, .pointer (some ⟨p, 0, none⟩), .agg #[.int .i64 3, .int .i64 1, .int .i64 0, .string ⟨#[97]⟩, .string ⟨#[104]⟩, .int .i64 10, .int .i64 0, .string ⟨#[111, 116, 104, 101, 114]⟩], x28, x29, x30, x31, x32, x33, x34, x35, x36, x37, x38, x39, x40, x41, x42, x43, x44, x45, x46, x47, x48, x49, x50, x51, x52, x53, x54, x55, x56, x57, x58, x59, x60, x61, x62, x63, x64, x65, x66, x67, x68, x69, x70, x71], []⟩ w := by
 have HP := Lib.hid hp; have HB := Lib.hid hb; have HS := Lib.hid hs; have HT := Lib.hid ht; have HK := Lib.hid hk
 clear hp hb hs ht hk
 refine wpAnyH_ready (rs := [10, 14]) (by kernel_rfl) (by simp) ?_
 refine AllReadyH.cons at5_10 (fun K hK => ?_) ?_
 ·go_simp
  have kk := ((Kept.refl (fun _ => False) w).alloc (.cells #[.int .i64 3, .int .i64 1, .int .i64 0, .string ⟨#[97]⟩, .string ⟨#[104]⟩, .int .i64 10, .int .i64 0, .string ⟨#[111, 116, 104, 101, 114]⟩] 37))
  refine hK.out _ _ ⟨HS.out.keptF kk, HT.out.keptF kk⟩ (fun _ => ?_)
  (try simp only [Act.put]); try simp only [z2, List.set]
  exact st2_2 HQ FIN _ _ _ _ _ _ _ _ _ _ _ _ _ _ _ _ _ _ _ _ _ _ _ _ _ _ _ _ _ _ _ _ _ _ _ _ _ _ _ _ _ _ _ _ _ _ _ _ _ _ _ _ _ _ _ _ _ _ w.heap.size _ (kk.cell HP.out (fun f => f)) ((kk.block b (Array.getElem?_eq_some_iff.1 HB.out).1 (fun f => f)).trans HB.out) (HS.out.keptF kk) (HT.out.keptF kk) (HK.out.alloc _) CellsAt.new
 refine AllReadyH.cons at5_14 (fun K hK => ?_) AllReadyH.nil
 ·go_simp
  have kk := ((Kept.refl (fun _ => False) w).alloc (.cells #[.int .i64 3, .int .i64 1, .int .i64 0, .string ⟨#[97]⟩, .string ⟨#[104]⟩, .int .i64 10, .int .i64 0, .string ⟨#[111, 116, 104, 101, 114]⟩] 37))
  refine hK.out _ _ ⟨HS.out.keptF kk, HT.out.keptF kk⟩ (fun _ => ?_)
  (try simp only [Act.put]); try simp only [z2, List.set]
  exact st2_3 HQ FIN _ _ _ _ _ _ _ _ _ _ _ _ _ _ _ _ _ _ _ _ _ _ _ _ _ _ _ _ _ _ _ _ _ _ _ _ _ _ _ _ _ _ _ _ _ _ _ _ _ _ _ _ _ _ _ _ _ _ w.heap.size _ (kk.cell HP.out (fun f => f)) ((kk.block b (Array.getElem?_eq_some_iff.1 HB.out).1 (fun f => f)).trans HB.out) (HS.out.keptF kk) (HT.out.keptF kk) (HK.out.alloc _) CellsAt.new
set_option maxHeartbeats 4000000 in
set_option maxRecDepth 100000 in
theorem st0_012 (HQ : HQ5 Q) (FIN : FIN5 Q p b ns nt w0)
  (x0 x4 x5 x6 x7 x8 x9 x10 x11 x12 x13 x17 x21 x25 x28 x29 x30 x31 x32 x33 x34 x35 x36 x37 x38 x39 x40 x41 x42 x43 x44 x45 x46 x47 x48 x49 x50 x51 x52 x53 x54 x55 x56 x57 x58 x59 x60 x61 x62 x63 x64 x65 x66 x67 x68 x69 x70 x71 : Value) (g0 g1 g2 : Nat) (w : World) (hp : w.cell? ⟨p, 0, none⟩ = some (.map (some b))) (hb : w.heap[b]? = some (.map #[] 0)) (hs : CellsAt w ns ⟨#[]⟩) (ht : CellsAt w nt ⟨#[111, 116, 104, 101, 114]⟩) (hk : Kept (fun k => k = b) w0 w) (c0 : CellsAt w g0 ⟨#[]⟩) (c1 : CellsAt w g1 ⟨#[111, 116, 104, 101, 114]⟩) (c2 : CellsAt w g2 ⟨#[111, 116, 104, 101, 114]⟩) :
  wpAnyH Try.prog .any ops5 Q (S5 ns nt) 9 #[true, true, true, false, true, true, true, false, true, true, true, false, true, true, false, false, false, false, false, false] ⟨#[x0, .pointer (some ⟨p, 0, none⟩), .pointer (some ⟨ns, 0, none⟩), .pointer (some ⟨nt, 0, none⟩), x4, x5, x6, x7, x8, x9, x10, x11, x12, x13, .pointer (some ⟨p, 0, none⟩), .agg #[.int .i64 3, .int .i64 1, .int .i64 0, .string ⟨#[97]⟩, .string ⟨#[104]⟩, .int .i64 10, .int .i64 0, .string ⟨#[]⟩], .slice (some ⟨g0, 0, none⟩) 1 1, x17, .pointer (some ⟨p, 0, none⟩), .agg #[.int .i64 3, .int .i64 1, .int .i64 0, .string ⟨#[97]⟩, .string ⟨#[104]⟩, .int .i64 10, .int .i64 0, .string ⟨#[111, 116, 104, 101, 114]⟩], .slice (some ⟨g1, 0, none⟩) 1 1, x21, .pointer (some ⟨p, 0, none⟩), .agg #[.int .i64 3, .int .i64 1, .int .i64 0, .string ⟨#[97]⟩, .string ⟨#[104]⟩, .int .i64 10, .int .i64 0, .string ⟨#[111, 116, 104, 101, 114]⟩], .slice (some ⟨g2, 0, none⟩) 1 1, x25, .pointer (some ⟨p, 0, none⟩), .agg #[.int .i64 3, .int .i64 1, .int .i64 0, .string ⟨#[97]⟩, .string ⟨#[104]⟩, .int .i64 10, .int .i64 0, .string ⟨#[111, 116, 104, 101, 114]⟩], x28, x29, x30, x31, x32, x33, x34, x35, x36, x37, x38, x39, x40, x41, x42, x43, x44, x45, x46, x47, x48, x49, x50, x51, x52, x53, x54, x55, x56, x57, x58, x59, x60, x61, x62, x63, x64, x65, x66, x67, x68, x69, x70, x71], []⟩ w := by
 have HP := Lib.hid hp; have HB := Lib.hid hb; have HS := Lib.hid hs; have HT := Lib.hid ht; have HK := Lib.hid hk
 have C0 := Lib.hid c0
 have C1 := Lib.hid c1
 have C2 := Lib.hid c2
 clear hp hb hs ht hk c0 c1 c2
 refine wpAnyH_ready (rs := [3, 14]) (by kernel_rfl) (by simp) ?_
 refine AllReadyH.cons at5_3 (fun K hK => ?_) ?_
 ·go_simp
  go_at_call 9
  refine (take_new (n := ⟨#[]⟩) 20 (by omega) (by omega) (by decide) HP.out HB.out C0.out).mono ?_
  rintro e w' ⟨rfl, kk, mm⟩
  dsimp only
  refine hK.out _ _ ⟨(HS.out.keptB HB.out kk), (HT.out.keptB HB.out kk)⟩ (fun _ => ?_)
  (try simp only [Act.put]); try simp only [z2, List.set]
  exact st1_12 HQ FIN _ _ _ _ _ _ _ _ _ _ _ _ _ _ _ _ _ _ _ _ _ _ _ _ _ _ _ _ _ _ _ _ _ _ _ _ _ _ _ _ _ _ _ _ _ _ _ _ _ _ _ _ _ _ _ _ _ _ g1 g2 _ mm.cell mm.map (HS.out.keptB HB.out kk) (HT.out.keptB HB.out kk) (HK.out.trans kk (fun _ _ h => h) (fun _ _ h => h)) (C1.out.keptB HB.out kk) (C2.out.keptB HB.out kk)
 refine AllReadyH.cons at5_14 (fun K hK => ?_) AllReadyH.nil
 ·go_simp
  have kk := ((Kept.refl (fun _ => False) w).alloc (.cells #[.int .i64 3, .int .i64 1, .int .i64 0, .string ⟨#[97]⟩, .string ⟨#[104]⟩, .int .i64 10, .int .i64 0, .string ⟨#[111, 116, 104, 101, 114]⟩] 37))
  refine hK.out _ _ ⟨HS.out.keptF kk, HT.out.keptF kk⟩ (fun _ => ?_)
  (try simp only [Act.put]); try simp only [z2, List.set]
  exact st0_0123 HQ FIN _ _ _ _ _ _ _ _ _ _ _ _ _ _ _ _ _ _ _ _ _ _ _ _ _ _ _ _ _ _ _ _ _ _ _ _ _ _ _ _ _ _ _ _ _ _ _ _ _ _ _ _ _ _ _ _ _ g0 g1 g2 w.heap.size _ (kk.cell HP.out (fun f => f)) ((kk.block b (Array.getElem?_eq_some_iff.1 HB.out).1 (fun f => f)).trans HB.out) (HS.out.keptF kk) (HT.out.keptF kk) (HK.out.alloc _) (C0.out.keptF kk) (C1.out.keptF kk) (C2.out.keptF kk) CellsAt.new
set_option maxHeartbeats 4000000 in
set_option maxRecDepth 100000 in
theorem st0_013 (HQ : HQ5 Q) (FIN : FIN5 Q p b ns nt w0)
  (x0 x4 x5 x6 x7 x8 x9 x10 x11 x12 x13 x17 x21 x24 x25 x29 x30 x31 x32 x33 x34 x35 x36 x37 x38 x39 x40 x41 x42 x43 x44 x45 x46 x47 x48 x49 x50 x51 x52 x53 x54 x55 x56 x57 x58 x59 x60 x61 x62 x63 x64 x65 x66 x67 x68 x69 x70 x71 : Value) (g0 g1 g3 : Nat) (w : World) (hp : w.cell? ⟨p, 0, none⟩ = some (.map (some b))) (hb : w.heap[b]? = some (.map #[] 0)) (hs : CellsAt w ns ⟨#[]⟩) (ht : CellsAt w nt ⟨#[111, 116, 104, 101, 114]⟩) (hk : Kept (fun k => k = b) w0 w) (c0 : CellsAt w g0 ⟨#[]⟩) (c1 : CellsAt w g1 ⟨#[111, 116, 104, 101, 114]⟩) (c3 : CellsAt w g3 ⟨#[111, 116, 104, 101, 114]⟩) :
  wpAnyH Try.prog .any ops5 Q (S5 ns nt) 9 #[true, true, true, false, true, true, true, false, true, true, false, false, true, true, true, false, false, false, false, false] ⟨#[x0, .pointer (some ⟨p, 0, none⟩), .pointer (some ⟨ns, 0, none⟩), .pointer (some ⟨nt, 0, none⟩), x4, x5, x6, x7, x8, x9, x10, x11, x12, x13, .pointer (some ⟨p, 0, none⟩), .agg #[.int .i64 3, .int .i64 1, .int .i64 0, .string ⟨#[97]⟩, .string ⟨#[104]⟩, .int .i64 10, .int .i64 0, .string ⟨#[]⟩], .slice (some ⟨g0, 0, none⟩) 1 1, x17, .pointer (some ⟨p, 0, none⟩), .agg #[.int .i64 3, .int .i64 1, .int .i64 0, .string ⟨#[97]⟩, .string ⟨#[104]⟩, .int .i64 10, .int .i64 0, .string ⟨#[111, 116, 104, 101, 114]⟩], .slice (some ⟨g1, 0, none⟩) 1 1, x21, .pointer (some ⟨p, 0, none⟩), .agg #[.int .i64 3, .int .i64 1, .int .i64 0, .string ⟨#[97]⟩, .string ⟨#[104]⟩, .int .i64 10, .int .i64 0, .string ⟨#[111, 116, 104, 101, 114]⟩], x24, x25, .pointer (some ⟨p, 0, none⟩), .agg #[.int .i64 3, .int .i64 1, .int .i64 0, .string ⟨#[97]⟩, .string ⟨#[104]⟩, .int .i64 10, .int .i64 0, .string ⟨#[111, 116, 104, 101, 114]⟩], .slice (some ⟨g3, 0, none⟩) 1 1, x29, x30, x31, x32, x33, x34, x35, x36, x37, x38, x39, x40, x41, x42, x43, x44, x45, x46, x47, x48, x49, x50, x51, x52, x53, x54, x55, x56, x57, x58, x59, x60, x61, x62, x63, x64, x65, x66, x67, x68, x69, x70, x71], []⟩ w := by
 have HP := Lib.hid hp; have HB := Lib.hid hb; have HS := Lib.hid hs; have HT := Lib.hid ht; have HK := Lib.hid hk
 have C0 := Lib.hid c0
 have C1 := Lib.hid c1
 have C3 := Lib.hid c3
 clear hp hb hs ht hk c0 c1 c3
 refine wpAnyH_ready (rs := [3, 10]) (by kernel_rfl) (by simp) ?_
 refine AllReadyH.cons at5_3 (fun K hK => ?_) ?_
 ·go_simp
  go_at_call 9
  refine (take_new (n := ⟨#[]⟩) 20 (by omega) (by omega) (by decide) HP.out HB.out C0.out).mono ?_
  rintro e w' ⟨rfl, kk, mm⟩
  dsimp only
  refine hK.out _ _ ⟨(HS.out.keptB HB.out kk), (HT.out.keptB HB.out kk)⟩ (fun _ => ?_)
  (try simp only [Act.put]); try simp only [z2, List.set]
  exact st1_13 HQ FIN _ _ _ _ _ _ _ _ _ _ _ _ _ _ _ _ _ _ _ _ _ _ _ _ _ _ _ _ _ _ _ _ _ _ _ _ _ _ _ _ _ _ _ _ _ _ _ _ _ _ _ _ _ _ _ _ _ _ g1 g3 _ mm.cell mm.map (HS.out.keptB HB.out kk) (HT.out.keptB HB.out kk) (HK.out.trans kk (fun _ _ h => h) (fun _ _ h => h)) (C1.out.keptB HB.out kk) (C3.out.keptB HB.out kk)
 refine AllReadyH.cons at5_10 (fun K hK => ?_) AllReadyH.nil
 ·go_simp
  have kk := ((Kept.refl (fun _ => False) w).alloc (.cells #[.int .i64 3, .int .i64 1, .int .i64 0, .string ⟨#[97]⟩, .string ⟨#[104]⟩, .int .i64 10, .int .i64 0, .string ⟨#[111, 116, 104, 101, 114]⟩] 37))
  refine hK.out _ _ ⟨HS.out.keptF kk, HT.out.keptF kk⟩ (fun _ => ?_)
  (try simp only [Act.put]); try simp only [z2, List.set]
  exact st0_0123 HQ FIN _ _ _ _ _ _ _ _ _ _ _ _ _ _ _ _ _ _ _ _ _ _ _ _ _ _ _ _ _ _ _ _ _ _ _ _ _ _ _ _ _ _ _ _ _ _ _ _ _ _ _ _ _ _ _ _ _ g0 g1 w.heap.size g3 _ (kk.cell HP.out (fun f => f)) ((kk.block b (Array.getElem?_eq_some_iff.1 HB.out).1 (fun f => f)).trans HB.out) (HS.out.keptF kk) (HT.out.keptF kk) (HK.out.alloc _) (C0.out.keptF kk) (C1.out.keptF kk) CellsAt.new (C3.out.keptF kk)
set_option maxHeartbeats 4000000 in
set_option maxRecDepth 100000 in
theorem st0_023 (HQ : HQ5 Q) (FIN : FIN5 Q p b ns nt w0)
  (x0 x4 x5 x6 x7 x8 x9 x10 x11 x12 x13 x17 x20 x21 x25 x29 x30 x31 x32 x33 x34 x35 x36 x37 x38 x39 x40 x41 x42 x43 x44 x45 x46 x47 x48 x49 x50 x51 x52 x53 x54 x55 x56 x57 x58 x59 x60 x61 x62 x63 x64 x65 x66 x67 x68 x69 x70 x71 : Value) (g0 g2 g3 : Nat) (w : World) (hp : w.cell? ⟨p, 0, none⟩ = some (.map (some b))) (hb : w.heap[b]? = some (.map #[] 0)) (hs : CellsAt w ns ⟨#[]⟩) (ht : CellsAt w nt ⟨#[111, 116, 104, 101, 114]⟩) (hk : Kept (fun k => k = b) w0 w) (c0 : CellsAt w g0 ⟨#[]⟩) (c2 : CellsAt w g2 ⟨#[111, 116, 104, 101, 114]⟩) (c3 : CellsAt w g3 ⟨#[111, 116, 104, 101, 114]⟩) :
  wpAnyH Try.prog .any ops5 Q (S5 ns nt) 9 #[true, true, true, false, true, true, false, false, true, true, true, false, true, true, true, false, false, false, false, false] ⟨#[x0, .pointer (some ⟨p, 0, none⟩), .pointer (some ⟨ns, 0, none⟩), .pointer (some ⟨nt, 0, none⟩), x4, x5, x6, x7, x8, x9, x10, x11, x12, x13, .pointer (some ⟨p, 0, none⟩), .agg #[.int .i64 3, .int .i64 1, .int .i64 0, .string ⟨#[97]⟩, .string ⟨#[104]⟩, .int .i64 10, .int .i64 0, .string ⟨#[]⟩], .slice (some ⟨g0, 0, none⟩) 1 1, x17, .pointer (some ⟨p, 0, none⟩), .agg #[.int .i64 3, .int .i64 1, .int .i64 0, .string ⟨#[97]⟩, .string ⟨#[104]⟩, .int .i64 10, .int .i64 0, .string ⟨#[111, 116, 104, 101, 114]⟩], x20, x21, .pointer (some ⟨p, 0, none⟩), .agg #[.int .i64 3, .int .i64 1, .int .i64 0, .string ⟨#[97]⟩, .string ⟨#[104]⟩, .int .i64 10, .int .i64 0, .string ⟨#[111, 116, 104, 101, 114]⟩], .slice (some ⟨g2, 0, none⟩) 1 1, x25, .pointer (some ⟨p, 0, none⟩), .agg #[.int .i64 3, .int .i64 1, .int .i64 0, .string ⟨#[97]⟩, .string ⟨#[104]⟩, .int .i64 10, .int .i64 0, .string ⟨#[111, 116, 104, 101, 114]⟩], .slice (some ⟨g3, 0, none⟩) 1 1, x29, x30, x31, x32, x33, x34, x35, x36, x37, x38, x39, x40, x41, x42, x43, x44, x45, x46, x47, x48, x49, x50, x51, x52, x53, x54, x55, x56, x57, x58, x59, x60, x61, x62, x63, x64, x65, x66, x67, x68, x69, x70, x71], []⟩ w := by
 have HP := Lib.hid hp; have HB := Lib.hid hb; have HS := Lib.hid hs; have HT := Lib.hid ht; have HK := Lib.hid hk
 have C0 := Lib.hid c0
 have C2 := Lib.hid c2
 have C3 := Lib.hid c3
 clear hp hb hs ht hk c0 c2 c3
 refine wpAnyH_ready (rs := [3, 6]) (by kernel_rfl) (by simp) ?_
 refine AllReadyH.cons at5_3 (fun K hK => ?_) ?_
 ·go_simp
  go_at_call 9
  refine (take_new (n := ⟨#[]⟩) 20 (by omega) (by omega) (by decide) HP.out HB.out C0.out).mono ?_
  rintro e w' ⟨rfl, kk, mm⟩
  dsimp only
  refine hK.out _ _ ⟨(HS.out.keptB HB.out kk), (HT.out.keptB HB.out kk)⟩ (fun _ => ?_)
  (try simp only [Act.put]); try simp only [z2, List.set]
  exact st1_23 HQ FIN _ _ _ _ _ _ _ _ _ _ _ _ _ _ _ _ _ _ _ _ _ _ _ _ _ _ _ _ _ _ _ _ _ _ _ _ _ _ _ _ _ _ _ _ _ _ _ _ _ _ _ _ _ _ _ _ _ _ g2 g3 _ mm.cell mm.map (HS.out.keptB HB.out kk) (HT.out.keptB HB.out kk) (HK.out.trans kk (fun _ _ h => h) (fun _ _ h => h)) (C2.out.keptB HB.out kk) (C3.out.keptB HB.out kk)
 refine AllReadyH.cons at5_6 (fun K hK => ?_) AllReadyH.nil
 ·go_simp
  have kk := ((Kept.refl (fun _ => False) w).alloc (.cells #[.int .i64 3, .int .i64 1, .int .i64 0, .string ⟨#[97]⟩, .string ⟨#[104]⟩, .int .i64 10, .int .i64 0, .string ⟨#[111, 116, 104, 101, 114]⟩] 37))
  refine hK.out _ _ ⟨HS.out.keptF kk, HT.out.keptF kk⟩ (fun _ => ?_)
  (try simp only [Act.put]); try simp only [z2, List.set]
  exact st0_0123 HQ FIN _ _ _ _ _ _ _ _ _ _ _ _ _ _ _ _ _ _ _ _ _ _ _ _ _ _ _ _ _ _ _ _ _ _ _ _ _ _ _ _ _ _ _ _ _ _ _ _ _ _ _ _ _ _ _ _ _ g0 w.heap.size g2 g3 _ (kk.cell HP.out (fun f => f)) ((kk.block b (Array.getElem?_eq_some_iff.1 HB.out).1 (fun f => f)).trans HB.out) (HS.out.keptF kk) (HT.out.keptF kk) (HK.out.alloc _) (C0.out.keptF kk) CellsAt.new (C2.out.keptF kk) (C3.out.keptF kk)
set_option maxHeartbeats 4000000 in
set_option maxRecDepth 100000 in
theorem st0_123 (HQ : HQ5 Q) (FIN : FIN5 Q p b ns nt w0)
  (x0 x4 x5 x6 x7 x8 x9 x10 x11 x12 x13 x16 x17 x21 x25 x29 x30 x31 x32 x33 x34 x35 x36 x37 x38 x39 x40 x41 x42 x43 x44 x45 x46 x47 x48 x49 x50 x51 x52 x53 x54 x55 x56 x57 x58 x59 x60 x61 x62 x63 x64 x65 x66 x67 x68 x69 x70 x71 : Value) (g1 g2 g3 : Nat) (w : World) (hp : w.cell? ⟨p, 0, none⟩ = some (.map (some b))) (hb : w.heap[b]? = some (.map #[] 0)) (hs : CellsAt w ns ⟨#[]⟩) (ht : CellsAt w nt ⟨#[111, 116, 104, 101, 114]⟩) (hk : Kept (fun k => k = b) w0 w) (c1 : CellsAt w g1 ⟨#[111, 116, 104, 101, 114]⟩) (c2 : CellsAt w g2 ⟨#[111, 116, 104, 101, 114]⟩) (c3 : CellsAt w g3 ⟨#[111, 116, 104, 101, 114]⟩) :
  wpAnyH Try.prog .any ops5 Q (S5 ns nt) 9 #[true, true, false, false, true, true, true, false, true, true, true, false, true, true, true, false, false, false, false, false] ⟨#[x0, .pointer (some ⟨p, 0, none⟩), .pointer (some ⟨ns, 0, none⟩), .pointer (some ⟨nt, 0, none⟩), x4, x5, x6, x7, x8, x9, x10, x11, x12, x13, .pointer (some ⟨p, 0, none⟩), .agg #[.int .i64 3, .int .i64 1, .int .i64 0, .string ⟨#[97]⟩, .string ⟨#[104]⟩, .int .i64 10, .int .i64 0, .string ⟨#[]⟩], x16, x17, .pointer (some ⟨p, 0, none⟩), .agg #[.int .i64 3, .int .i64 1, .int .i64 0, .string ⟨#[97]⟩, .string ⟨#[104]⟩, .int .i64 10, .int .i64 0, .string ⟨#[111, 116, 104, 101, 114]⟩], .slice (some ⟨g1, 0, none⟩) 1 1, x21, .pointer (some ⟨p, 0, none⟩), .agg #[.int .i64 3, .int .i64 1, .int .i64 0, .string ⟨#[97]⟩, .string ⟨#[104]⟩, .int .i64 10, .int .i64 0, .string ⟨#[111, 116, 104, 101, 114]⟩], .slice (some ⟨g2, 0, none⟩) 1 1, x25, .pointer (some ⟨p, 0, none⟩), .agg #[.int .i64 3, .int .i64 1, .int .i64 0, .string ⟨#[97]⟩, .string ⟨#[104]⟩, .int .i64 10, .int .i64 0, .string ⟨#[111, 116, 104, 101, 114]⟩], .slice (some ⟨g3, 0, none⟩) 1 1, x29, x30, x31, x32, x33, x34, x35, x36, x37, x38, x39, x40, x41, x42, x43, x44, x45, x46, x47, x48, x49, x50, x51, x52, x53, x54, x55, x56, x57, x58, x59, x60, x61, x62, x63, x64, x65, x66, x67, x68, x69, x70, x71], []⟩ w := by
 have HP := Lib.hid hp; have HB := Lib.hid hb; have HS := Lib.hid hs; have HT := Lib.hid ht; have HK := Lib.hid hk
 have C1 := Lib.hid c1
 have C2 := Lib.hid c2
 have C3 := Lib.hid c3
 clear hp hb hs ht hk c1 c2 c3
 refine wpAnyH_ready (rs := [2]) (by kernel_rfl) (by simp) ?_
 refine AllReadyH.cons at5_2 (fun K hK => ?_) AllReadyH.nil
 ·go_simp
  have kk := ((Kept.refl (fun _ => False) w).alloc (.cells #[.int .i64 3, .int .i64 1, .int .i64 0, .string ⟨#[97]⟩, .string ⟨#[104]⟩, .int .i64 10, .int .i64 0, .string ⟨#[]⟩] 37))
  refine hK.out _ _ ⟨HS.out.keptF kk, HT.out.keptF kk⟩ (fun _ => ?_)
  (try simp only [Act.put]); try simp only [z2, List.set]
  exact st0_0123 HQ FIN _ _ _ _ _ _ _ _ _ _ _ _ _ _ _ _ _ _ _ _ _ _ _ _ _ _ _ _ _ _ _ _ _ _ _ _ _ _ _ _ _ _ _ _ _ _ _ _ _ _ _ _ _ _ _ _ _ w.heap.size g1 g2 g3 _ (kk.cell HP.out (fun f => f)) ((kk.block b (Array.getElem?_eq_some_iff.1 HB.out).1 (fun f => f)).trans HB.out) (HS.out.keptF kk) (HT.out.keptF kk) (HK.out.alloc _) CellsAt.new (C1.out.keptF kk) (C2.out.keptF kk) (C3.out.keptF kk)
set_option maxHeartbeats 4000000 in
set_option maxRecDepth 100000 in
theorem st1_1 (HQ : HQ5 Q) (FIN : FIN5 Q p b ns nt w0)
  (x0 x4 x5 x6 x7 x8 x9 x10 x11 x12 x13 x16 x21 x24 x25 x28 x29 x30 x31 x32 x33 x34 x35 x36 x37 x38 x39 x40 x41 x42 x43 x44 x45 x46 x47 x48 x49 x50 x51 x52 x53 x54 x55 x56 x57 x58 x59 x60 x61 x62 x63 x64 x65 x66 x67 x68 x69 x70 x71 : Value) (g1 : Nat) (w : World) (hp : w.cell? ⟨p, 0, none⟩ = some (.map (some b))) (hb : w.heap[b]? = some (.map #[⟨kV, spanV ⟨#[]⟩, 0⟩] 1)) (hs : CellsAt w ns ⟨#[]⟩) (ht : CellsAt w nt ⟨#[111, 116, 104, 101, 114]⟩) (hk : Kept (fun k => k = b) w0 w) (c1 : CellsAt w g1 ⟨#[111, 116, 104, 101, 114]⟩) :
  wpAnyH Try.prog .any ops5 Q (S5 ns nt) 9 #[true, true, true, true, true, true, true, false, true, true, false, false, true, true, false, false, false, false, false, false] ⟨#[x0, .pointer (some ⟨p, 0, none⟩), .pointer (some ⟨ns, 0, none⟩), .pointer (some ⟨nt, 0, none⟩), x4, x5, x6, x7, x8, x9, x10, x11, x12, x13, .pointer (some ⟨p, 0, none⟩), .agg #[.int .i64 3, .int .i64 1, .int .i64 0, .string ⟨#[97]⟩, .string ⟨#[104]⟩, .int .i64 10, .int .i64 0, .string ⟨#[]⟩], x16, .int .i64 1, .pointer (some ⟨p, 0, none⟩), .agg #[.int .i64 3, .int .i64 1, .int .i64 0, .string ⟨#[97]⟩, .string ⟨#[104]⟩, .int .i64 10, .int .i64 0, .string ⟨#[111, 116, 104, 101, 114]⟩], .slice (some ⟨g1, 0, none⟩) 1 1, x21, .pointer (some ⟨p, 0, none⟩), .agg #[.int .i64 3, .int .i64 1, .int .i64 0, .string ⟨#[97]⟩, .string ⟨#[104]⟩, .int .i64 10, .int .i64 0, .string ⟨#[111, 116, 104, 101, 114]⟩], x24, x25, .pointer (some ⟨p, 0, none⟩), .agg #[.int .i64 3, .int .i64 1, .int .i64 0, .string ⟨#[97]⟩, .string ⟨#[104]⟩, .int .i64 10, .int .i64 0, .string ⟨#[111, 116, 104, 101, 114]⟩], x28, x29, x30, x31, x32, x33, x34, x35, x36, x37, x38, x39, x40, x41, x42, x43, x44, x45, x46, x47, x48, x49, x50, x51, x52, x53, x54, x55, x56, x57, x58, x59, x60, x61, x62, x63, x64, x65, x66, x67, x68, x69, x70, x71], []⟩ w := by
 have HP := Lib.hid hp; have HB := Lib.hid hb; have HS := Lib.hid hs; have HT := Lib.hid ht; have HK := Lib.hid hk
 have C1 := Lib.hid c1
 clear hp hb hs ht hk c1
 refine wpAnyH_ready (rs := [7, 10, 14]) (by kernel_rfl) (by simp) ?_
 refine AllReadyH.cons at5_7 (fun K hK => ?_) ?_
 ·go_simp
  go_at_call 9
  refine (take_old (n := ⟨#[111, 116, 104, 101, 114]⟩) (e := ⟨#[]⟩) 20 (by omega) (by omega) (by decide) ⟨HP.out, HB.out⟩ C1.out).mono ?_
  rintro e w' ⟨rfl, kk⟩
  dsimp only
  refine hK.out _ _ ⟨(HS.out.keptF kk), (HT.out.keptF kk)⟩ (fun _ => ?_)
  (try simp only [Act.put]); try simp only [z2, List.set]
  exact st2_ HQ FIN _ _ _ _ _ _ _ _ _ _ _ _ _ _ _ _ _ _ _ _ _ _ _ _ _ _ _ _ _ _ _ _ _ _ _ _ _ _ _ _ _ _ _ _ _ _ _ _ _ _ _ _ _ _ _ _ _ _ _  _ (kk.cell HP.out (fun f => f)) ((kk.block b (Array.getElem?_eq_some_iff.1 HB.out).1 (fun f => f)).trans HB.out) (HS.out.keptF kk) (HT.out.keptF kk) (HK.out.trans kk (fun _ _ h => h) (fun _ _ f => f.elim))
 refine AllReadyH.cons at5_10 (fun K hK => ?_) ?_
 ·go_simp
  have kk := ((Kept.refl (fun _ => False) w).alloc (.cells #[.int .i64 3, .int .i64 1, .int .i64 0, .string ⟨#[97]⟩, .string ⟨#[104]⟩, .int .i64 10, .int .i64 0, .string ⟨#[111, 116, 104, 101, 114]⟩] 37))
  refine hK.out _ _ ⟨HS.out.keptF kk, HT.out.keptF kk⟩ (fun _ => ?_)
  (try simp only [Act.put]); try simp only [z2, List.set]
  exact st1_12 HQ FIN _ _ _ _ _ _ _ _ _ _ _ _ _ _ _ _ _ _ _ _ _ _ _ _ _ _ _ _ _ _ _ _ _ _ _ _ _ _ _ _ _ _ _ _ _ _ _ _ _ _ _ _ _ _ _ _ _ _ g1 w.heap.size _ (kk.cell HP.out (fun f => f)) ((kk.block b (Array.getElem?_eq_some_iff.1 HB.out).1 (fun f => f)).trans HB.out) (HS.out.keptF kk) (HT.out.keptF kk) (HK.out.alloc _) (C1.out.keptF kk) CellsAt.new
 refine AllReadyH.cons at5_14 (fun K hK => ?_) AllReadyH.nil
 ·go_simp
  have kk := ((Kept.refl (fun _ => False) w).alloc (.cells #[.int .i64 3, .int .i64 1, .int .i64 0, .string ⟨#[97]⟩, .string ⟨#[104]⟩, .int .i64 10, .int .i64 0, .string ⟨#[111, 116, 104, 101, 114]⟩] 37))
  refine hK.out _ _ ⟨HS.out.keptF kk, HT.out.keptF kk⟩ (fun _ => ?_)
  (try simp only [Act.put]); try simp only [z2, List.set]
  exact st1_13 HQ FIN _ _ _ _ _ _ _ _ _ _ _ _ _ _ _ _ _ _ _ _ _ _ _ _ _ _ _ _ _ _ _ _ _ _ _ _ _ _ _ _ _ _ _ _ _ _ _ _ _ _ _ _ _ _ _ _ _ _ g1 w.heap.size _ (kk.cell HP.out (fun f => f)) ((kk.block b (Array.getElem?_eq_some_iff.1 HB.out).1 (fun f => f)).trans HB.out) (HS.out.keptF kk) (HT.out.keptF kk) (HK.out.alloc _) (C1.out.keptF kk) CellsAt.new
set_option maxHeartbeats 4000000 in
set_option maxRecDepth 100000 in
theorem st1_2 (HQ : HQ5 Q) (FIN : FIN5 Q p b ns nt w0)
  (x0 x4 x5 x6 x7 x8 x9 x10 x11 x12 x13 x16 x20 x21 x25 x28 x29 x30 x31 x32 x33 x34 x35 x36 x37 x38 x39 x40 x41 x42 x43 x44 x45 x46 x47 x48 x49 x50 x51 x52 x53 x54 x55 x56 x57 x58 x59 x60 x61 x62 x63 x64 x65 x66 x67 x68 x69 x70 x71 : Value) (g2 : Nat) (w : World) (hp : w.cell? ⟨p, 0, none⟩ = some (.map (some b))) (hb : w.heap[b]? = some (.map #[⟨kV, spanV ⟨#[]⟩, 0⟩] 1)) (hs : CellsAt w ns ⟨#[]⟩) (ht : CellsAt w nt ⟨#[111, 116, 104, 101, 114]⟩) (hk : Kept (fun k => k = b) w0 w) (c2 : CellsAt w g2 ⟨#[111, 116, 104, 101, 114]⟩) :
  wpAnyH Try.prog .any ops5 Q (S5 ns nt) 9 #[true, true, true, true, true, true, false, false, true, true, true, false, true, true, false, false, false, false, false, false] ⟨#[x0, .pointer (some ⟨p, 0, none⟩), .pointer (some ⟨ns, 0, none⟩), .pointer (some ⟨nt, 0, none⟩), x4, x5, x6, x7, x8, x9, x10, x11, x12, x13, .pointer (some ⟨p, 0, none⟩), .agg #[.int .i64 3, .int .i64 1, .int .i64 0, .string ⟨#[97]⟩, .string ⟨#[104]⟩, .int .i64 10, .int .i64 0, .string ⟨#[]⟩], x16, .int .i64 1, .pointer (some ⟨p, 0, none⟩), .agg #[.int .i64 3, .int .i64 1, .int .i64 0, .string ⟨#[97]⟩, .string ⟨#[104]⟩, .int .i64 10, .int .i64 0, .string ⟨#[111, 116, 104, 101, 114]⟩], x20, x21, .pointer (some ⟨p, 0, none⟩), .agg #[.int .i64 3, .int .i64 1, .int .i64 0, .string ⟨#[97]⟩, .string ⟨#[104]⟩, .int .i64 10, .int .i64 0, .string ⟨#[111, 116, 104, 101, 114]⟩], .slice (some ⟨g2, 0, none⟩) 1 1, x25, .pointer (some ⟨p, 0, none⟩), .agg #[.int .i64 3, .int .i64 1, .int .i64 0, .string ⟨#[97]⟩, .string ⟨#[104]⟩, .int .i64 10, .int .i64 0, .string ⟨#[111, 116, 104, 101, 114]⟩], x28, x29, x30, x31, x32, x33, x34, x35, x36, x37, x38, x39, x40, x41, x42, x43, x44, x45, x46, x47, x48, x49, x50, x51, x52, x53, x54, x55, x56, x57, x58, x59, x60, x61, x62, x63, x64, x65, x66, x67, x68, x69, x70, x71], []⟩ w := by
 have HP := Lib.hid hp; have HB := Lib.hid hb; have HS := Lib.hid hs; have HT := Lib.hid ht; have HK := Lib.hid hk
 have C2 := Lib.hid c2
 clear hp hb hs ht hk c2
 refine wpAnyH_ready (rs := [6, 14]) (by kernel_rfl) (by simp) ?_
 refine AllReadyH.cons at5_6 (fun K hK => ?_) ?_
 ·go_simp
  have kk := ((Kept.refl (fun _ => False) w).alloc (.cells #[.int .i64 3, .int .i64 1, .int .i64 0, .string ⟨#[97]⟩, .string ⟨#[104]⟩, .int .i64 10, .int .i64 0, .string ⟨#[111, 116, 104, 101, 114]⟩] 37))
  refine hK.out _ _ ⟨HS.out.keptF kk, HT.out.keptF kk⟩ (fun _ => ?_)
  (try simp only [Act.put]); try simp only [z2, List.set]
  exact st1_12 HQ FIN _ _ _ _ _ _ _ _ _ _ _ _ _ _ _ _ _ _ _ _ _ _ _ _ _ _ _ _ _ _ _ _ _ _ _ _ _ _ _ _ _ _ _ _ _ _ _ _ _ _ _ _ _ _ _ _ _ _ w.heap.size g2 _ (kk.cell HP.out (fun f => f)) ((kk.block b (Array.getElem?_eq_some_iff.1 HB.out).1 (fun f => f)).trans HB.out) (HS.out.keptF kk) (HT.out.keptF kk) (HK.out.alloc _) CellsAt.new (C2.out.keptF kk)
 refine AllReadyH.cons at5_14 (fun K hK => ?_) AllReadyH.nil
 ·go_simp
  have kk := ((Kept.refl (fun _ => False) w).alloc (.cells #[.int .i64 3, .int .i64 1, .int .i64 0, .string ⟨#[97]⟩, .string ⟨#[104]⟩, .int .i64 10, .int .i64 0, .string ⟨#[111, 116, 104, 101, 114]⟩] 37))
  refine hK.out _ _ ⟨HS.out.keptF kk, HT.out.keptF kk⟩ (fun _ => ?_)
  (try simp only [Act.put]); try simp only [z2, List.set]
  exact st1_23 HQ FIN _ _ _ _ _ _ _ _ _ _ _ _ _ _ _ _ _ _ _ _ _ _ _ _ _ _ _ _ _ _ _ _ _ _ _ _ _ _ _ _ _ _ _ _ _ _ _ _ _ _ _ _ _ _ _ _ _ _ g2 w.heap.size _ (kk.cell HP.out (fun f => f)) ((kk.block b (Array.getElem?_eq_some_iff.1 HB.out).1 (fun f => f)).trans HB.out) (HS.out.keptF kk) (HT.out.keptF kk) (HK.out.alloc _) (C2.out.keptF kk) CellsAt.new
set_option maxHeartbeats 4000000 in
set_option maxRecDepth 100000 in
theorem st1_3 (HQ : HQ5 Q) (FIN : FIN5 Q p b ns nt w0)
  (x0 x4 x5 x6 x7 x8 x9 x10 x11 x12 x13 x16 x20 x21 x24 x25 x29 x30 x31 x32 x33 x34 x35 x36 x37 x38 x39 x40 x41 x42 x43 x44 x45 x46 x47 x48 x49 x50 x51 x52 x53 x54 x55 x56 x57 x58 x59 x60 x61 x62 x63 x64 x65 x66 x67 x68 x69 x70 x71 : Value) (g3 : Nat) (w : World) (hp : w.cell? ⟨p, 0, none⟩ = some (.map (some b))) (hb : w.heap[b]? = some (.map #[⟨kV, spanV ⟨#[]⟩, 0⟩] 1)) (hs : CellsAt w ns ⟨#[]⟩) (ht : CellsAt w nt ⟨#[111, 116, 104, 101, 114]⟩) (hk : Kept (fun k => k = b) w0 w) (c3 : CellsAt w g3 ⟨#[111, 116, 104, 101, 114]⟩) :
  wpAnyH Try.prog .any ops5 Q (S5 ns nt) 9 #[true, true, true, true, true, true, false, false, true, true, false, false, true, true, true, false, false, false, false, false] ⟨#[x0, .pointer (some ⟨p, 0, none⟩), .pointer (some ⟨ns, 0, none⟩), .pointer (some ⟨nt, 0, none⟩), x4, x5, x6, x7, x8, x9, x10, x11, x12, x13, .pointer (some ⟨p, 0, none⟩), .agg #[.int .i64 3, .int .i64 1, .int .i64 0, .string ⟨#[97]⟩, .string ⟨#[104]⟩, .int .i64 10, .int .i64 0, .string ⟨#[]⟩], x16, .int .i64 1, .pointer (some ⟨p, 0, none⟩), .agg #[.int .i64 3, .int .i64 1, .int .i64 0, .string ⟨#[97]⟩, .string ⟨#[104]⟩, .int .i64 10, .int .i64 0, .string ⟨#[111, 116, 104, 101, 114]⟩], x20, x21, .pointer (some ⟨p, 0, none⟩), .agg #[.int .i64 3, .int .i64 1, .int .i64 0, .string ⟨#[97]⟩, .string ⟨#[104]⟩, .int .i64 10, .int .i64 0, .string ⟨#[111, 116, 104, 101, 114]⟩], x24, x25, .pointer (some ⟨p, 0, none⟩), .agg #[.int .i64 3, .int .i64 1, .int .i64 0, .string ⟨#[97]⟩, .string ⟨#[104]⟩, .int .i64 10, .int .i64 0, .string ⟨#[111, 116, 104, 101, 114]⟩], .slice (some ⟨g3, 0, none⟩) 1 1, x29, x30, x31, x32, x33, x34, x35, x36, x37, x38, x39, x40, x41, x42, x43, x44, x45, x46, x47, x48, x49, x50, x51, x52, x53, x54, x55, x56, x57, x58, x59, x60, x61, x62, x63, x64, x65, x66, x67, x68, x69, x70, x71], []⟩ w := by
 have HP := Lib.hid hp; have HB := Lib.hid hb; have HS := Lib.hid hs; have HT := Lib.hid ht; have HK := Lib.hid hk
 have C3 := Lib.hid c3
 clear hp hb hs ht hk c3
 refine wpAnyH_ready (rs := [6, 10]) (by kernel_rfl) (by simp) ?_
 refine AllReadyH.cons at5_6 (fun K hK => ?_) ?_
 ·go_simp
  have kk := ((Kept.refl (fun _ => False) w).alloc (.cells #[.int .i64 3, .int .i64 1, .int .i64 0, .string ⟨#[97]⟩, .string ⟨#[104]⟩, .int .i64 10, .int .i64 0, .string ⟨#[111, 116, 104, 101, 114]⟩] 37))
  refine hK.out _ _ ⟨HS.out.keptF kk, HT.out.keptF kk⟩ (fun _ => ?_)
  (try simp only [Act.put]); try simp only [z2, List.set]
  exact st1_13 HQ FIN _ _ _ _ _ _ _ _ _ _ _ _ _ _ _ _ _ _ _ _ _ _ _ _ _ _ _ _ _ _ _ _ _ _ _ _ _ _ _ _ _ _ _ _ _ _ _ _ _ _ _ _ _ _ _ _ _ _ w.heap.size g3 _ (kk.cell HP.out (fun f => f)) ((kk.block b (Array.getElem?_eq_some_iff.1 HB.out).1 (fun f => f)).trans HB.out) (HS.out.keptF kk) (HT.out.keptF kk) (HK.out.alloc _) CellsAt.new (C3.out.keptF kk)
 refine AllReadyH.cons at5_10 (fun K hK => ?_) AllReadyH.nil
 ·go_simp
  have kk := ((Kept.refl (fun _ => False) w).alloc (.cells #[.int .i64 3, .int .i64 1, .int .i64 0, .string ⟨#[97]⟩, .string ⟨#[104]⟩, .int .i64 10, .int .i64 0, .string ⟨#[111, 116, 104, 101, 114]⟩] 37))
  refine hK.out _ _ ⟨HS.out.keptF kk, HT.out.keptF kk⟩ (fun _ => ?_)
  (try simp only [Act.put]); try simp only [z2, List.set]
  exact st1_23 HQ FIN _ _ _ _ _ _ _ _ _ _ _ _ _ _ _ _ _ _ _ _ _ _ _ _ _ _ _ _ _ _ _ _ _ _ _ _ _ _ _ _ _ _ _ _ _ _ _ _ _ _ _ _ _ _ _ _ _ _ w.heap.size g3 _ (kk.cell HP.out (fun f => f)) ((kk.block b (Array.getElem?_eq_some_iff.1 HB.out).1 (fun f => f)).trans HB.out) (HS.out.keptF kk) (HT.out.keptF kk) (HK.out.alloc _) CellsAt.new (C3.out.keptF kk)
set_option maxHeartbeats 4000000 in
set_option maxRecDepth 100000 in
theorem st0_01 (HQ : HQ5 Q) (FIN : FIN5 Q p b ns nt w0)
  (x0 x4 x5 x6 x7 x8 x9 x10 x11 x12 x13 x17 x21 x24 x25 x28 x29 x30 x31 x32 x33 x34 x35 x36 x37 x38 x39 x40 x41 x42 x43 x44 x45 x46 x47 x48 x49 x50 x51 x52 x53 x54 x55 x56 x57 x58 x59 x60 x61 x62 x63 x64 x65 x66 x67 x68 x69 x70 x71 : Value) (g0 g1 : Nat) (w : World) (hp : w.cell? ⟨p, 0, none⟩ = some (.map (some b))) (hb : w.heap[b]? = some (.map #[] 0)) (hs : CellsAt w ns ⟨#[]⟩) (ht : CellsAt w nt ⟨#[111, 116, 104, 101, 114]⟩) (hk : Kept (fun k => k = b) w0 w) (c0 : CellsAt w g0 ⟨#[]⟩) (c1 : CellsAt w g1 ⟨#[111, 116, 104, 101, 114]⟩) :
  wpAnyH Try.prog .any ops5 Q (S5 ns nt) 10 #[true, true, true, false, true, true, true, false, true, true, false, false, true, true, false, false, false, false, false, false] ⟨#[x0, .pointer (some ⟨p, 0, none⟩), .pointer (some ⟨ns, 0, none⟩), .pointer (some ⟨nt, 0, none⟩), x4, x5, x6, x7, x8, x9, x10, x11, x12, x13, .pointer (some ⟨p, 0, none⟩), .agg #[.int .i64 3, .int .i64 1, .int .i64 0, .string ⟨#[97]⟩, .string ⟨#[104]⟩, .int .i64 10, .int .i64 0, .string ⟨#[]⟩], .slice (some ⟨g0, 0, none⟩) 1 1, x17, .pointer (some ⟨p, 0, none⟩), .agg #[.int .i64 3, .int .i64 1, .int .i64 0, .string ⟨#[97]⟩, .string ⟨#[104]⟩, .int .i64 10, .int .i64 0, .string ⟨#[111, 116, 104, 101, 114]⟩], .slice (some ⟨g1, 0, none⟩) 1 1, x21, .pointer (some ⟨p, 0, none⟩), .agg #[.int .i64 3, .int .i64 1, .int .i64 0, .string ⟨#[97]⟩, .string ⟨#[104]⟩, .int .i64 10, .int .i64 0, .string ⟨#[111, 116, 104, 101, 114]⟩], x24, x25, .pointer (some ⟨p, 0, none⟩), .agg #[.int .i64 3, .int .i64 1, .int .i64 0, .string ⟨#[97]⟩, .string ⟨#[104]⟩, .int .i64 10, .int .i64 0, .string ⟨#[111, 116, 104, 101, 114]⟩], x28, x29, x30, x31, x32, x33, x34, x35, x36, x37, x38, x39, x40, x41, x42, x43, x44, x45, x46, x47, x48, x49, x50, x51, x52, x53, x54, x55, x56, x57, x58, x59, x60, x61, x62, x63, x64, x65, x66, x67, x68, x69, x70, x71], []⟩ w := by
 have HP := Lib.hid hp; have HB := Lib.hid hb; have HS := Lib.hid hs; have HT := Lib.hid ht; have HK := Lib.hid hk
 have C0 := Lib.hid c0
 have C1 := Lib.hid c1
 clear hp hb hs ht hk c0 c1
 refine wpAnyH_ready (rs := [3, 10, 14]) (by kernel_rfl) (by simp) ?_
 refine AllReadyH.cons at5_3 (fun K hK => ?_) ?_
 ·go_simp
  go_at_call 9
  refine (take_new (n := ⟨#[]⟩) 20 (by omega) (by omega) (by decide) HP.out HB.out C0.out).mono ?_
  rintro e w' ⟨rfl, kk, mm⟩
  dsimp only
  refine hK.out _ _ ⟨(HS.out.keptB HB.out kk), (HT.out.keptB HB.out kk)⟩ (fun _ => ?_)
  (try simp only [Act.put]); try simp only [z2, List.set]
  exact st1_1 HQ FIN _ _ _ _ _ _ _ _ _ _ _ _ _ _ _ _ _ _ _ _ _ _ _ _ _ _ _ _ _ _ _ _ _ _ _ _ _ _ _ _ _ _ _ _ _ _ _ _ _ _ _ _ _ _ _ _ _ _ _ g1 _ mm.cell mm.map (HS.out.keptB HB.out kk) (HT.out.keptB HB.out kk) (HK.out.trans kk (fun _ _ h => h) (fun _ _ h => h)) (C1.out.keptB HB.out kk)
 refine AllReadyH.cons at5_10 (fun K hK => ?_) ?_
 ·go_simp
  have kk := ((Kept.refl (fun _ => False) w).alloc (.cells #[.int .i64 3, .int .i64 1, .int .i64 0, .string ⟨#[97]⟩, .string ⟨#[104]⟩, .int .i64 10, .int .i64 0, .string ⟨#[111, 116, 104, 101, 114]⟩] 37))
  refine hK.out _ _ ⟨HS.out.keptF kk, HT.out.keptF kk⟩ (fun _ => ?_)
  (try simp only [Act.put]); try simp only [z2, List.set]
  exact st0_012 HQ FIN _ _ _ _ _ _ _ _ _ _ _ _ _ _ _ _ _ _ _ _ _ _ _ _ _ _ _ _ _ _ _ _ _ _ _ _ _ _ _ _ _ _ _ _ _ _ _ _ _ _ _ _ _ _ _ _ _ _ g0 g1 w.heap.size _ (kk.cell HP.out (fun f => f)) ((kk.block b (Array.getElem?_eq_some_iff.1 HB.out).1 (fun f => f)).trans HB.out) (HS.out.keptF kk) (HT.out.keptF kk) (HK.out.alloc _) (C0.out.keptF kk) (C1.out.keptF kk) CellsAt.new
 refine AllReadyH.cons at5_14 (fun K hK => ?_) AllReadyH.nil
 ·go_simp
  have kk := ((Kept.refl (fun _ => False) w).alloc (.cells #[.int .i64 3, .int .i64 1, .int .i64 0, .string ⟨#[97]⟩, .string ⟨#[104]⟩, .int .i64 10, .int .i64 0, .string ⟨#[111, 116, 104, 101, 114]⟩] 37))
  refine hK.out _ _ ⟨HS.out.keptF kk, HT.out.keptF kk⟩ (fun _ => ?_)
  (try simp only [Act.put]); try simp only [z2, List.set]
  exact st0_013 HQ FIN _ _ _ _ _ _ _ _ _ _ _ _ _ _ _ _ _ _ _ _ _ _ _ _ _ _ _ _ _ _ _ _ _ _ _ _ _ _ _ _ _ _ _ _ _ _ _ _ _ _ _ _ _ _ _ _ _ _ g0 g1 w.heap.size _ (kk.cell HP.out (fun f => f)) ((kk.block b (Array.getElem?_eq_some_iff.1 HB.out).1 (fun f => f)).trans HB.out) (HS.out.keptF kk) (HT.out.keptF kk) (HK.out.alloc _) (C0.out.keptF kk) (C1.out.keptF kk) CellsAt.new
set_option maxHeartbeats 4000000 in
set_option maxRecDepth 100000 in
theorem st0_02 (HQ : HQ5 Q) (FIN : FIN5 Q p b ns nt w0)
  (x0 x4 x5 x6 x7 x8 x9 x10 x11 x12 x13 x17 x20 x21 x25 x28 x29 x30 x31 x32 x33 x34 x35 x36 x37 x38 x39 x40 x41 x42 x43 x44 x45 x46 x47 x48 x49 x50 x51 x52 x53 x54 x55 x56 x57 x58 x59 x60 x61 x62 x63 x64 x65 x66 x67 x68 x69 x70 x71 : Value) (g0 g2 : Nat) (w : World) (hp : w.cell? ⟨p, 0, none⟩ = some (.map (some b))) (hb : w.heap[b]? = some (.map #[] 0)) (hs : CellsAt w ns ⟨#[]⟩) (ht : CellsAt w nt ⟨#[111, 116, 104, 101, 114]⟩) (hk : Kept (fun k => k = b) w0 w) (c0 : CellsAt w g0 ⟨#[]⟩) (c2 : CellsAt w g2 ⟨#[111, 116, 104, 101, 114]⟩) :
  wpAnyH Try.prog .any ops5 Q (S5 ns nt) 10 #[true, true, true, false, true, true, false, false, true, true, true, false, true, true, false, false, false, false, false, false] ⟨#[x0, .pointer (some ⟨p, 0, none⟩), .pointer (some ⟨ns, 0, none⟩), .pointer (some ⟨nt, 0, none⟩), x4, x5, x6, x7, x8, x9, x10, x11, x12, x13, .pointer (some ⟨p, 0, none⟩), .agg #[.int .i64 3, .int .i64 1, .int .i64 0, .string ⟨#[97]⟩, .string ⟨#[104]⟩, .int .i64 10, .int .i64 0, .string ⟨#[]⟩], .slice (some ⟨g0, 0, none⟩) 1 1, x17, .pointer (some ⟨p, 0, none⟩), .agg #[.int .i64 3, .int .i64 1, .int .i64 0, .string ⟨#[97]⟩, .string ⟨#[104]⟩, .int .i64 10, .int .i64 0, .string ⟨#[111, 116, 104, 101, 114]⟩], x20, x21, .pointer (some ⟨p, 0, none⟩), .agg #[.int .i64 3, .int .i64 1, .int .i64 0, .string ⟨#[97]⟩, .string ⟨#[104]⟩, .int .i64 10, .int .i64 0, .string ⟨#[111, 116, 104, 101, 114]⟩], .slice (some ⟨g2, 0, none⟩) 1 1, x25, .pointer (some ⟨p, 0, none⟩), .agg #[.int .i64 3, .int .i64 1, .int .i64 0, .string ⟨#[97]⟩, .string ⟨#[104]⟩, .int .i64 10, .int .i64 0, .string ⟨#[111, 116, 104, 101, 114]⟩], x28, x29, x30, x31, x32, x33, x34, x35, x36, x37, x38, x39, x40, x41, x42, x43, x44, x45, x46, x47, x48, x49, x50, x51, x52, x53, x54, x55, x56, x57, x58, x59, x60, x61, x62, x63, x64, x65, x66, x67, x68, x69, x70, x71], []⟩ w := by
 have HP := Lib.hid hp; have HB := Lib.hid hb; have HS := Lib.hid hs; have HT := Lib.hid ht; have HK := Lib.hid hk
 have C0 := Lib.hid c0
 have C2 := Lib.hid c2
 clear hp hb hs ht hk c0 c2
 refine wpAnyH_ready (rs := [3, 6, 14]) (by kernel_rfl) (by simp) ?_
 refine AllReadyH.cons at5_3 (fun K hK => ?_) ?_
 ·go_simp
  go_at_call 9
  refine (take_new (n := ⟨#[]⟩) 20 (by omega) (by omega) (by decide) HP.out HB.out C0.out).mono ?_
  rintro e w' ⟨rfl, kk, mm⟩
  dsimp only
  refine hK.out _ _ ⟨(HS.out.keptB HB.out kk), (HT.out.keptB HB.out kk)⟩ (fun _ => ?_)
  (try simp only [Act.put]); try simp only [z2, List.set]
  exact st1_2 HQ FIN _ _ _ _ _ _ _ _ _ _ _ _ _ _ _ _ _ _ _ _ _ _ _ _ _ _ _ _ _ _ _ _ _ _ _ _ _ _ _ _ _ _ _ _ _ _ _ _ _ _ _ _ _ _ _ _ _ _ _ g2 _ mm.cell mm.map (HS.out.keptB HB.out kk) (HT.out.keptB HB.out kk) (HK.out.trans kk (fun _ _ h => h) (fun _ _ h => h)) (C2.out.keptB HB.out kk)
 refine AllReadyH.cons at5_6 (fun K hK => ?_) ?_
 ·go_simp
  have kk := ((Kept.refl (fun _ => False) w).alloc (.cells #[.int .i64 3, .int .i64 1, .int .i64 0, .string ⟨#[97]⟩, .string ⟨#[104]⟩, .int .i64 10, .int .i64 0, .string ⟨#[111, 116, 104, 101, 114]⟩] 37))
  refine hK.out _ _ ⟨HS.out.keptF kk, HT.out.keptF kk⟩ (fun _ => ?_)
  (try simp only [Act.put]); try simp only [z2, List.set]
  exact st0_012 HQ FIN _ _ _ _ _ _ _ _ _ _ _ _ _ _ _ _ _ _ _ _ _ _ _ _ _ _ _ _ _ _ _ _ _ _ _ _ _ _ _ _ _ _ _ _ _ _ _ _ _ _ _ _ _ _ _ _ _ _ g0 w.heap.size g2 _ (kk.cell HP.out (fun f => f)) ((kk.block b (Array.getElem?_eq_some_iff.1 HB.out).1 (fun f => f)).trans HB.out) (HS.out.keptF kk) (HT.out.keptF kk) (HK.out.alloc _) (C0.out.keptF kk) CellsAt.new (C2.out.keptF kk)
 refine AllReadyH.cons at5_14 (fun K hK => ?_) AllReadyH.nil
 ·go_simp
  have kk := ((Kept.refl (fun _ => False) w).alloc (.cells #[.int .i64 3, .int .i64 1, .int .i64 0, .string ⟨#[97]⟩, .string ⟨#[104]⟩, .int .i64 10, .int .i64 0, .string ⟨#[111, 116, 104, 101, 114]⟩] 37))
  refine hK.out _ _ ⟨HS.out.keptF kk, HT.out.keptF kk⟩ (fun _ => ?_)
  (try simp only [Act.put]); try simp only [z2, List.set]
  exact st0_023 HQ FIN _ _ _ _ _ _ _ _ _ _ _ _ _ _ _ _ _ _ _ _ _ _ _ _ _ _ _ _ _ _ _ _ _ _ _ _ _ _ _ _ _ _ _ _ _ _ _ _ _ _ _ _ _ _ _ _ _ _ g0 g2 w.heap.size _ (kk.cell HP.out (fun f => f)) ((kk.block b (Array.getElem?_eq_some_iff.1 HB.out).1 (fun f => f)).trans HB.out) (HS.out.keptF kk) (HT.out.keptF kk) (HK.out.alloc _) (C0.out.keptF kk) (C2.out.keptF kk) CellsAt.new
set_option maxHeartbeats 4000000 in
set_option maxRecDepth 100000 in
theorem st0_03 (HQ : HQ5 Q) (FIN : FIN5 Q p b ns nt w0)
  (x0 x4 x5 x6 x7 x8 x9 x10 x11 x12 x13 x17 x20 x21 x24 x25 x29 x30 x31 x32 x33 x34 x35 x36 x37 x38 x39 x40 x41 x42 x43 x44 x45 x46 x47 x48 x49 x50 x51 x52 x53 x54 x55 x56 x57 x58 x59 x60 x61 x62 x63 x64 x65 x66 x67 x68 x69 x70 x71 : Value) (g0 g3 : Nat) (w : World) (hp : w.cell? ⟨p, 0, none⟩ = some (.map (some b))) (hb : w.heap[b]? = some (.map #[] 0)) (hs : CellsAt w ns ⟨#[]⟩) (ht : CellsAt w nt ⟨#[111, 116, 104, 101, 114]⟩) (hk : Kept (fun k => k = b) w0 w) (c0 : CellsAt w g0 ⟨#[]⟩) (c3 : CellsAt w g3 ⟨#[111, 116, 104, 101, 114]⟩) :
  wpAnyH Try.prog .any ops5 Q (S5 ns nt) 10 #[true, true, true, false, true, true, false, false, true, true, false, false, true, true, true, false, false, false, false, false] ⟨#[x0, .pointer (some ⟨p, 0, none⟩), .pointer (some ⟨ns, 0, none⟩), .pointer (some ⟨nt, 0, none⟩), x4, x5, x6, x7, x8, x9, x10, x11, x12, x13, .pointer (some ⟨p, 0, none⟩), .agg #[.int .i64 3, .int .i64 1, .int .i64 0, .string ⟨#[97]⟩, .string ⟨#[104]⟩, .int .i64 10, .int .i64 0, .string ⟨#[]⟩], .slice (some ⟨g0, 0, none⟩) 1 1, x17, .pointer (some ⟨p, 0, none⟩), .agg #[.int .i64 3, .int .i64 1, .int .i64 0, .string ⟨#[97]⟩, .string ⟨#[104]⟩, .int .i64 10, .int .i64 0, .string ⟨#[111, 116, 104, 101, 114]⟩], x20, x21, .pointer (some ⟨p, 0, none⟩), .agg #[.int .i64 3, .int .i64 1, .int .i64 0, .string ⟨#[97]⟩, .string ⟨#[104]⟩, .int .i64 10, .int .i64 0, .string ⟨#[111, 116, 104, 101, 114]⟩], x24, x25, .pointer (some ⟨p, 0, none⟩), .agg #[.int .i64 3, .int .i64 1, .int .i64 0, .string ⟨#[97]⟩, .string ⟨#[104]⟩, .int .i64 10, .int .i64 0, .string ⟨#[111, 116, 104, 101, 114]⟩], .slice (some ⟨g3, 0, none⟩) 1 1, x29, x30, x31, x32, x33, x34, x35, x36, x37, x38, x39, x40, x41, x42, x43, x44, x45, x46, x47, x48, x49, x50, x51, x52, x53, x54, x55, x56, x57, x58, x59, x60, x61, x62, x63, x64, x65, x66, x67, x68, x69, x70, x71], []⟩ w := by
 have HP := Lib.hid hp; have HB := Lib.hid hb; have HS := Lib.hid hs; have HT := Lib.hid ht; have HK := Lib.hid hk
 have C0 := Lib.hid c0
 have C3 := Lib.hid c3
 clear hp hb hs ht hk c0 c3
 refine wpAnyH_ready (rs := [3, 6, 10]) (by kernel_rfl) (by simp) ?_
 refine AllReadyH.cons at5_3 (fun K hK => ?_) ?_
 ·go_simp
  go_at_call 9
  refine (take_new (n := ⟨#[]⟩) 20 (by omega) (by omega) (by decide) HP.out HB.out C0.out).mono ?_
  rintro e w' ⟨rfl, kk, mm⟩
  dsimp only
  refine hK.out _ _ ⟨(HS.out.keptB HB.out kk), (HT.out.keptB HB.out kk)⟩ (fun _ => ?_)
  (try simp only [Act.put]); try simp only [z2, List.set]
  exact st1_3 HQ FIN _ _ _ _ _ _ _ _ _ _ _ _ _ _ _ _ _ _ _ _ _ _ _ _ _ _ _ _ _ _ _ _ _ _ _ _ _ _ _ _ _ _ _ _ _ _ _ _ _ _ _ _ _ _ _ _ _ _ _ g3 _ mm.cell mm.map (HS.out.keptB HB.out kk) (HT.out.keptB HB.out kk) (HK.out.trans kk (fun _ _ h => h) (fun _ _ h => h)) (C3.out.keptB HB.out kk)
 refine AllReadyH.cons at5_6 (fun K hK => ?_) ?_
 ·go_simp
  have kk := ((Kept.refl (fun _ => False) w).alloc (.cells #[.int .i64 3, .int .i64 1, .int .i64 0, .string ⟨#[97]⟩, .string ⟨#[104]⟩, .int .i64 10, .int .i64 0, .string ⟨#[111, 116, 104, 101, 114]⟩] 37))
  refine hK.out _ _ ⟨HS.out.keptF kk, HT.out.keptF kk⟩ (fun _ => ?_)
  (try simp only [Act.put]); try simp only [z2, List.set]
  exact st0_013 HQ FIN _ _ _ _ _ _ _ _ _ _ _ _ _ _ _ _ _ _ _ _ _ _ _ _ _ _ _ _ _ _ _ _ _ _ _ _ _ _ _ _ _ _ _ _ _ _ _ _ _ _ _ _ _ _ _ _ _ _ g0 w.heap.size g3 _ (kk.cell HP.out (fun f => f)) ((kk.block b (Array.getElem?_eq_some_iff.1 HB.out).1 (fun f => f)).trans HB.out) (HS.out.keptF kk) (HT.out.keptF kk) (HK.out.alloc _) (C0.out.keptF kk) CellsAt.new (C3.out.keptF kk)
 refine AllReadyH.cons at5_10 (fun K hK => ?_) AllReadyH.nil
 ·go_simp
  have kk := ((Kept.refl (fun _ => False) w).alloc (.cells #[.int .i64 3, .int .i64 1, .int .i64 0, .string ⟨#[97]⟩, .string ⟨#[104]⟩, .int .i64 10, .int .i64 0, .string ⟨#[111, 116, 104, 101, 114]⟩] 37))
  refine hK.out _ _ ⟨HS.out.keptF kk, HT.out.keptF kk⟩ (fun _ => ?_)
  (try simp only [Act.put]); try simp only [z2, List.set]
  exact st0_023 HQ FIN _ _ _ _ _ _ _ _ _ _ _ _ _ _ _ _ _ _ _ _ _ _ _ _ _ _ _ _ _ _ _ _ _ _ _ _ _ _ _ _ _ _ _ _ _ _ _ _ _ _ _ _ _ _ _ _ _ _ g0 w.heap.size g3 _ (kk.cell HP.out (fun f => f)) ((kk.block b (Array.getElem?_eq_some_iff.1 HB.out).1 (fun f => f)).trans HB.out) (HS.out.keptF kk) (HT.out.keptF kk) (HK.out.alloc _) (C0.out.keptF kk) CellsAt.new (C3.out.keptF kk)
set_option maxHeartbeats 4000000 in
set_option maxRecDepth 100000 in
theorem st0_12 (HQ : HQ5 Q) (FIN : FIN5 Q p b ns nt w0)
  (x0 x4 x5 x6 x7 x8 x9 x10 x11 x12 x13 x16 x17 x21 x25 x28 x29 x30 x31 x32 x33 x34 x35 x36 x37 x38 x39 x40 x41 x42 x43 x44 x45 x46 x47 x48 x49 x50 x51 x52 x53 x54 x55 x56 x57 x58 x59 x60 x61 x62 x63 x64 x65 x66 x67 x68 x69 x70 x71 : Value) (g1 g2 : Nat) (w : World) (hp : w.cell? ⟨p, 0, none⟩ = some (.map (some b))) (hb : w.heap[b]? = some (.map #[] 0)) (hs : CellsAt w ns ⟨#[]⟩) (ht : CellsAt w nt ⟨#[111, 116, 104, 101, 114]⟩) (hk : Kept (fun k => k = b) w0 w) (c1 : CellsAt w g1 ⟨#[111, 116, 104, 101, 114]⟩) (c2 : CellsAt w g2 ⟨#[111, 116, 104, 101, 114]⟩) :
  wpAnyH Try.prog .any ops5 Q (S5 ns nt) 10 #[true, true, false, false, true, true, true, false, true, true, true, false, true, true, false, false, false, false, false, false] ⟨#[x0, .pointer (some ⟨p, 0, none⟩), .pointer (some ⟨ns, 0, none⟩), .pointer (some ⟨nt, 0, none⟩), x4, x5, x6, x7, x8, x9, x10, x11, x12, x13, .pointer (some ⟨p, 0, none⟩), .agg #[.int .i64 3, .int .i64 1, .int .i64 0, .string ⟨#[97]⟩, .string ⟨#[104]⟩, .int .i64 10, .int .i64 0, .string ⟨#[]⟩], x16, x17, .pointer (some ⟨p, 0, none⟩), .agg #[.int .i64 3, .int .i64 1, .int .i64 0, .string ⟨#[97]⟩, .string ⟨#[104]⟩, .int .i64 10, .int .i64 0, .string ⟨#[111, 116, 104, 101, 114]⟩], .slice (some ⟨g1, 0, none⟩) 1 1, x21, .pointer (some ⟨p, 0, none⟩), .agg #[.int .i64 3, .int .i64 1, .int .i64 0, .string ⟨#[97]⟩, .string ⟨#[104]⟩, .int .i64 10, .int .i64 0, .string ⟨#[111, 116, 104, 101, 114]⟩], .slice (some ⟨g2, 0, none⟩) 1 1, x25, .pointer (some ⟨p, 0, none⟩), .agg #[.int .i64 3, .int .i64 1, .int .i64 0, .string ⟨#[97]⟩, .string ⟨#[104]⟩, .int .i64 10, .int .i64 0, .string ⟨#[111, 116, 104, 101, 114]⟩], x28, x29, x30, x31, x32, x33, x34, x35, x36, x37, x38, x39, x40, x41, x42, x43, x44, x45, x46, x47, x48, x49, x50, x51, x52, x53, x54, x55, x56, x57, x58, x59, x60, x61, x62, x63, x64, x65, x66, x67, x68, x69, x70, x71], []⟩ w := by
 have HP := Lib.hid hp; have HB := Lib.hid hb; have HS := Lib.hid hs; have HT := Lib.hid ht; have HK := Lib.hid hk
 have C1 := Lib.hid c1
 have C2 := Lib.hid c2
 clear hp hb hs ht hk c1 c2
 refine wpAnyH_ready (rs := [2, 14]) (by kernel_rfl) (by simp) ?_
 refine AllReadyH.cons at5_2 (fun K hK => ?_) ?_
 ·go_simp
  have kk := ((Kept.refl (fun _ => False) w).alloc (.cells #[.int .i64 3, .int .i64 1, .int .i64 0, .string ⟨#[97]⟩, .string ⟨#[104]⟩, .int .i64 10, .int .i64 0, .string ⟨#[]⟩] 37))
  refine hK.out _ _ ⟨HS.out.keptF kk, HT.out.keptF kk⟩ (fun _ => ?_)
  (try simp only [Act.put]); try simp only [z2, List.set]
  exact st0_012 HQ FIN _ _ _ _ _ _ _ _ _ _ _ _ _ _ _ _ _ _ _ _ _ _ _ _ _ _ _ _ _ _ _ _ _ _ _ _ _ _ _ _ _ _ _ _ _ _ _ _ _ _ _ _ _ _ _ _ _ _ w.heap.size g1 g2 _ (kk.cell HP.out (fun f => f)) ((kk.block b (Array.getElem?_eq_some_iff.1 HB.out).1 (fun f => f)).trans HB.out) (HS.out.keptF kk) (HT.out.keptF kk) (HK.out.alloc _) CellsAt.new (C1.out.keptF kk) (C2.out.keptF kk)
 refine AllReadyH.cons at5_14 (fun K hK => ?_) AllReadyH.nil
 ·go_simp
  have kk := ((Kept.refl (fun _ => False) w).alloc (.cells #[.int .i64 3, .int .i64 1, .int .i64 0, .string ⟨#[97]⟩, .string ⟨#[104]⟩, .int .i64 10, .int .i64 0, .string ⟨#[111, 116, 104, 101, 114]⟩] 37))
  refine hK.out _ _ ⟨HS.out.keptF kk, HT.out.keptF kk⟩ (fun _ => ?_)
  (try simp only [Act.put]); try simp only [z2, List.set]
  exact st0_123 HQ FIN _ _ _ _ _ _ _ _ _ _ _ _ _ _ _ _ _ _ _ _ _ _ _ _ _ _ _ _ _ _ _ _ _ _ _ _ _ _ _ _ _ _ _ _ _ _ _ _ _ _ _ _ _ _ _ _ _ _ g1 g2 w.heap.size _ (kk.cell HP.out (fun f => f)) ((kk.block b (Array.getElem?_eq_some_iff.1 HB.out).1 (fun f => f)).trans HB.out) (HS.out.keptF kk) (HT.out.keptF kk) (HK.out.alloc _) (C1.out.keptF kk) (C2.out.keptF kk) CellsAt.new
set_option maxHeartbeats 4000000 in
set_option maxRecDepth 100000 in
theorem st0_13 (HQ : HQ5 Q) (FIN : FIN5 Q p b ns nt w0)
  (x0 x4 x5 x6 x7 x8 x9 x10 x11 x12 x13 x16 x17 x21 x24 x25 x29 x30 x31 x32 x33 x34 x35 x36 x37 x38 x39 x40 x41 x42 x43 x44 x45 x46 x47 x48 x49 x50 x51 x52 x53 x54 x55 x56 x57 x58 x59 x60 x61 x62 x63 x64 x65 x66 x67 x68 x69 x70 x71 : Value) (g1 g3 : Nat) (w : World) (hp : w.cell? ⟨p, 0, none⟩ = some (.map (some b))) (hb : w.heap[b]? = some (.map #[] 0)) (hs : CellsAt w ns ⟨#[]⟩) (ht : CellsAt w nt ⟨#[111, 116, 104, 101, 114]⟩) (hk : Kept (fun k => k = b) w0 w) (c1 : CellsAt w g1 ⟨#[111, 116, 104, 101, 114]⟩) (c3 : CellsAt w g3 ⟨#[111, 116, 104, 101, 114]⟩) :
  wpAnyH Try.prog .any ops5 Q (S5 ns nt) 10 #[true, true, false, false, true, true, true, false, true, true, false, false, true, true, true, false, false, false, false, false] ⟨#[x0, .pointer (some ⟨p, 0, none⟩), .pointer (some ⟨ns, 0, none⟩), .pointer (some ⟨nt, 0, none⟩), x4, x5, x6, x7, x8, x9, x10, x11, x12, x13, .pointer (some ⟨p, 0, none⟩), .agg #[.int .i64 3, .int .i64 1, .int .i64 0, .string ⟨#[97]⟩, .string ⟨#[104]⟩, .int .i64 10, .int .i64 0, .string ⟨#[]⟩], x16, x17, .pointer (some ⟨p, 0, none⟩), .agg #[.int .i64 3, .int .i64 1, .int .i64 0, .string ⟨#[97]⟩, .string ⟨#[104]⟩, .int .i64 10, .int .i64 0, .string ⟨#[111, 116, 104, 101, 114]⟩], .slice (some ⟨g1, 0, none⟩) 1 1, x21, .pointer (some ⟨p, 0, none⟩), .agg #[.int .i64 3, .int .i64 1, .int .i64 0, .string ⟨#[97]⟩, .string ⟨#[104]⟩, .int .i64 10, .int .i64 0, .string ⟨#[111, 116, 104, 101, 114]⟩], x24, x25, .pointer (some ⟨p, 0, none⟩), .agg #[.int .i64 3, .int .i64 1, .int .i64 0, .string ⟨#[97]⟩, .string ⟨#[104]⟩, .int .i64 10, .int .i64 0, .string ⟨#[111, 116, 104, 101, 114]⟩], .slice (some ⟨g3, 0, none⟩) 1 1, x29, x30, x31, x32, x33, x34, x35, x36, x37, x38, x39, x40, x41, x42, x43, x44, x45, x46, x47, x48, x49, x50, x51, x52, x53, x54, x55, x56, x57, x58, x59, x60, x61, x62, x63, x64, x65, x66, x67, x68, x69, x70, x71], []⟩ w := by
 have HP := Lib.hid hp; have HB := Lib.hid hb; have HS := Lib.hid hs; have HT := Lib.hid ht; have HK := Lib.hid hk
 have C1 := Lib.hid c1
 have C3 := Lib.hid c3
 clear hp hb hs ht hk c1 c3
 refine wpAnyH_ready (rs := [2, 10]) (by kernel_rfl) (by simp) ?_
 refine AllReadyH.cons at5_2 (fun K hK => ?_) ?_
 ·go_simp
  have kk := ((Kept.refl (fun _ => False) w).alloc (.cells #[.int .i64 3, .int .i64 1, .int .i64 0, .string ⟨#[97]⟩, .string ⟨#[104]⟩, .int .i64 10, .int .i64 0, .string ⟨#[]⟩] 37))
  refine hK.out _ _ ⟨HS.out.keptF kk, HT.out.keptF kk⟩ (fun _ => ?_)
  (try simp only [Act.put]); try simp only [z2, List.set]
  exact st0_013 HQ FIN _ _ _ _ _ _ _ _ _ _ _ _ _ _ _ _ _ _ _ _ _ _ _ _ _ _ _ _ _ _ _ _ _ _ _ _ _ _ _ _ _ _ _ _ _ _ _ _ _ _ _ _ _ _ _ _ _ _ w.heap.size g1 g3 _ (kk.cell HP.out (fun f => f)) ((kk.block b (Array.getElem?_eq_some_iff.1 HB.out).1 (fun f => f)).trans HB.out) (HS.out.keptF kk) (HT.out.keptF kk) (HK.out.alloc _) CellsAt.new (C1.out.keptF kk) (C3.out.keptF kk)
 refine AllReadyH.cons at5_10 (fun K hK => ?_) AllReadyH.nil
 ·go_simp
  have kk := ((Kept.refl (fun _ => False) w).alloc (.cells #[.int .i64 3, .int .i64 1, .int .i64 0, .string ⟨#[97]⟩, .string ⟨#[104]⟩, .int .i64 10, .int .i64 0, .string ⟨#[111, 116, 104, 101, 114]⟩] 37))
  refine hK.out _ _ ⟨HS.out.keptF kk, HT.out.keptF kk⟩ (fun _ => ?_)
  (try simp only [Act.put]); try simp only [z2, List.set]
  exact st0_123 HQ FIN _ _ _ _ _ _ _ _ _ _ _ _ _ _ _ _ _ _ _ _ _ _ _ _ _ _ _ _ _ _ _ _ _ _ _ _ _ _ _ _ _ _ _ _ _ _ _ _ _ _ _ _ _ _ _ _ _ _ g1 w.heap.size g3 _ (kk.cell HP.out (fun f => f)) ((kk.block b (Array.getElem?_eq_some_iff.1 HB.out).1 (fun f => f)).trans HB.out) (HS.out.keptF kk) (HT.out.keptF kk) (HK.out.alloc _) (C1.out.keptF kk) CellsAt.new (C3.out.keptF kk)
set_option maxHeartbeats 4000000 in
set_option maxRecDepth 100000 in
theorem st0_23 (HQ : HQ5 Q) (FIN : FIN5 Q p b ns nt w0)
  (x0 x4 x5 x6 x7 x8 x9 x10 x11 x12 x13 x16 x17 x20 x21 x25 x29 x30 x31 x32 x33 x34 x35 x36 x37 x38 x39 x40 x41 x42 x43 x44 x45 x46 x47 x48 x49 x50 x51 x52 x53 x54 x55 x56 x57 x58 x59 x60 x61 x62 x63 x64 x65 x66 x67 x68 x69 x70 x71 : Value) (g2 g3 : Nat) (w : World) (hp : w.cell? ⟨p, 0, none⟩ = some (.map (some b))) (hb : w.heap[b]? = some (.map #[] 0)) (hs : CellsAt w ns ⟨#[]⟩) (ht : CellsAt w nt ⟨#[111, 116, 104, 101, 114]⟩) (hk : Kept (fun k => k = b) w0 w) (c2 : CellsAt w g2 ⟨#[111, 116, 104, 101, 114]⟩) (c3 : CellsAt w g3 ⟨#[111, 116, 104, 101, 114]⟩) :
  wpAnyH Try.prog .any ops5 Q (S5 ns nt) 10 #[true, true, false, false, true, true, false, false, true, true, true, false, true, true, true, false, false, false, false, false] ⟨#[x0, .pointer (some ⟨p, 0, none⟩), .pointer (some ⟨ns, 0, none⟩), .pointer (some ⟨nt, 0, none⟩), x4, x5, x6, x7, x8, x9, x10, x11, x12, x13, .pointer (some ⟨p, 0, none⟩), .agg #[.int .i64 3, .int .i64 1, .int .i64 0, .string ⟨#[97]⟩, .string ⟨#[104]⟩, .int .i64 10, .int .i64 0, .string ⟨#[]⟩], x16, x17, .pointer (some ⟨p, 0, none⟩), .agg #[.int .i64 3, .int .i64 1, .int .i64 0, .string ⟨#[97]⟩, .string ⟨#[104]⟩, .int .i64 10, .int .i64 0, .string ⟨#[111, 116, 104, 101, 114]⟩], x20, x21, .pointer (some ⟨p, 0, none⟩), .agg #[.int .i64 3, .int .i64 1, .int .i64 0, .string ⟨#[97]⟩, .string ⟨#[104]⟩, .int .i64 10, .int .i64 0, .string ⟨#[111, 116, 104, 101, 114]⟩], .slice (some ⟨g2, 0, none⟩) 1 1, x25, .pointer (some ⟨p, 0, none⟩), .agg #[.int .i64 3, .int .i64 1, .int .i64 0, .string ⟨#[97]⟩, .string ⟨#[104]⟩, .int .i64 10, .int .i64 0, .string ⟨#[111, 116, 104, 101, 114]⟩], .slice (some ⟨g3, 0, none⟩) 1 1, x29, x30, x31, x32, x33, x34, x35, x36, x37, x38, x39, x40, x41, x42, x43, x44, x45, x46, x47, x48, x49, x50, x51, x52, x53, x54, x55, x56, x57, x58, x59, x60, x61, x62, x63, x64, x65, x66, x67, x68, x69, x70, x71], []⟩ w := by
 have HP := Lib.hid hp; have HB := Lib.hid hb; have HS := Lib.hid hs; have HT := Lib.hid ht; have HK := Lib.hid hk
 have C2 := Lib.hid c2
 have C3 := Lib.hid c3
 clear hp hb hs ht hk c2 c3
 refine wpAnyH_ready (rs := [2, 6]) (by kernel_rfl) (by simp) ?_
 refine AllReadyH.cons at5_2 (fun K hK => ?_) ?_
 ·go_simp
  have kk := ((Kept.refl (fun _ => False) w).alloc (.cells #[.int .i64 3, .int .i64 1, .int .i64 0, .string ⟨#[97]⟩, .string ⟨#[104]⟩, .int .i64 10, .int .i64 0, .string ⟨#[]⟩] 37))
  refine hK.out _ _ ⟨HS.out.keptF kk, HT.out.keptF kk⟩ (fun _ => ?_)
  (try simp only [Act.put]); try simp only [z2, List.set]
  exact st0_023 HQ FIN _ _ _ _ _ _ _ _ _ _ _ _ _ _ _ _ _ _ _ _ _ _ _ _ _ _ _ _ _ _ _ _ _ _ _ _ _ _ _ _ _ _ _ _ _ _ _ _ _ _ _ _ _ _ _ _ _ _ w.heap.size g2 g3 _ (kk.cell HP.out (fun f => f)) ((kk.block b (Array.getElem?_eq_some_iff.1 HB.out).1 (fun f => f)).trans HB.out) (HS.out.keptF kk) (HT.out.keptF kk) (HK.out.alloc _) CellsAt.new (C2.out.keptF kk) (C3.out.keptF kk)
 refine AllReadyH.cons at5_6 (fun K hK => ?_) AllReadyH.nil
 ·go_simp
  have kk := ((Kept.refl (fun _ => False) w).alloc (.cells #[.int .i64 3, .int .i64 1, .int .i64 0, .string ⟨#[97]⟩, .string ⟨#[104]⟩, .int .i64 10, .int .i64 0, .string ⟨#[111, 116, 104, 101, 114]⟩] 37))
  refine hK.out _ _ ⟨HS.out.keptF kk, HT.out.keptF kk⟩ (fun _ => ?_)
  (try simp only [Act.put]); try simp only [z2, List.set]
  exact st0_123 HQ FIN _ _ _ _ _ _ _ _ _ _ _ _ _ _ _ _ _ _ _ _ _ _ _ _ _ _ _ _ _ _ _ _ _ _ _ _ _ _ _ _ _ _ _ _ _ _ _ _ _ _ _ _ _ _ _ _ _ _ w.heap.size g2 g3 _ (kk.cell HP.out (fun f => f)) ((kk.block b (Array.getElem?_eq_some_iff.1 HB.out).1 (fun f => f)).trans HB.out) (HS.out.keptF kk) (HT.out.keptF kk) (HK.out.alloc _) CellsAt.new (C2.out.keptF kk) (C3.out.keptF kk)
set_option maxHeartbeats 4000000 in
set_option maxRecDepth 100000 in
theorem st1_ (HQ : HQ5 Q) (FIN : FIN5 Q p b ns nt w0)
  (x0 x4 x5 x6 x7 x8 x9 x10 x11 x12 x13 x16 x20 x21 x24 x25 x28 x29 x30 x31 x32 x33 x34 x35 x36 x37 x38 x39 x40 x41 x42 x43 x44 x45 x46 x47 x48 x49 x50 x51 x52 x53 x54 x55 x56 x57 x58 x59 x60 x61 x62 x63 x64 x65 x66 x67 x68 x69 x70 x71 : Value) (w : World) (hp : w.cell? ⟨p, 0, none⟩ = some (.map (some b))) (hb : w.heap[b]? = some (.map #[⟨kV, spanV ⟨#[]⟩, 0⟩] 1)) (hs : CellsAt w ns ⟨#[]⟩) (ht : CellsAt w nt ⟨#[111, 116, 104, 101, 114]⟩) (hk : Kept (fun k => k = b) w0 w) :
  wpAnyH Try.prog .any ops5 Q (S5 ns nt) 10 #[true, true, true, true, true, true, false, false, true, true, false, false, true, true, false, false, false, false, false, false] ⟨#[x0, .pointer (some ⟨p, 0, none⟩), .pointer (some ⟨ns, 0, none⟩), .pointer (some ⟨nt, 0, none⟩), x4, x5, x6, x7, x8, x9, x10, x11, x12, x13, .pointer (some ⟨p, 0, none⟩), .agg #[.int .i64 3, .int .i64 1, .int .i64 0, .string ⟨#[97]⟩, .string ⟨#[104]⟩, .int .i64 10, .int .i64 0, .string ⟨#[]⟩], x16, .int .i64 1, .pointer (some ⟨p, 0, none⟩), .agg #[.int .i64 3, .int .i64 1, .int .i64 0, .string ⟨#[97]⟩, .string ⟨#[104]⟩, .int .i64 10, .int .i64 0, .string ⟨#[111, 116, 104, 101, 114]⟩], x20, x21, .pointer (some ⟨p, 0, none⟩), .agg #[.int .i64 3, .int .i64 1, .int .i64 0, .string ⟨#[97]⟩, .string ⟨#[104]⟩, .int .i64 10, .int .i64 0, .string ⟨#[111, 116, 104, 101, 114]⟩], x24, x25, .pointer (some ⟨p, 0, none⟩), .agg #[.int .i64 3, .int .i64 1, .int .i64 0, .string ⟨#[97]⟩, .string ⟨#[104]⟩, .int .i64 10, .int .i64 0, .string ⟨#[111, 116, 104, 101, 114]⟩], x28, x29, x30, x31, x32, x33, x34, x35, x36, x37, x38, x39, x40, x41, x42, x43, x44, x45, x46, x47, x48, x49, x50, x51, x52, x53, x54, x55, x56, x57, x58, x59, x60, x61, x62, x63, x64, x65, x66, x67, x68, x69, x70, x71], []⟩ w := by
 have HP := Lib.hid hp; have HB := Lib.hid hb; have HS := Lib.hid hs; have HT := Lib.hid ht; have HK := Lib.hid hk
 clear hp hb hs ht hk
 refine wpAnyH_ready (rs := [6, 10, 14]) (by kernel_rfl) (by simp) ?_
 refine AllReadyH.cons at5_6 (fun K hK => ?_) ?_
 ·go_simp
  have kk := ((Kept.refl (fun _ => False) w).alloc (.cells #[.int .i64 3, .int .i64 1, .int .i64 0, .string ⟨#[97]⟩, .string ⟨#[104]⟩, .int .i64 10, .int .i64 0, .string ⟨#[111, 116, 104, 101, 114]⟩] 37))
  refine hK.out _ _ ⟨HS.out.keptF kk, HT.out.keptF kk⟩ (fun _ => ?_)
  (try simp only [Act.put]); try simp only [z2, List.set]
  exact st1_1 HQ FIN _ _ _ _ _ _ _ _ _ _ _ _ _ _ _ _ _ _ _ _ _ _ _ _ _ _ _ _ _ _ _ _ _ _ _ _ _ _ _ _ _ _ _ _ _ _ _ _ _ _ _ _ _ _ _ _ _ _ _ w.heap.size _ (kk.cell HP.out (fun f => f)) ((kk.block b (Array.getElem?_eq_some_iff.1 HB.out).1 (fun f => f)).trans HB.out) (HS.out.keptF kk) (HT.out.keptF kk) (HK.out.alloc _) CellsAt.new
 refine AllReadyH.cons at5_10 (fun K hK => ?_) ?_
 ·go_simp
  have kk := ((Kept.refl (fun _ => False) w).alloc (.cells #[.int .i64 3, .int .i64 1, .int .i64 0, .string ⟨#[97]⟩, .string ⟨#[104]⟩, .int .i64 10, .int .i64 0, .string ⟨#[111, 116, 104, 101, 114]⟩] 37))
  refine hK.out _ _ ⟨HS.out.keptF kk, HT.out.keptF kk⟩ (fun _ => ?_)
  (try simp only [Act.put]); try simp only [z2, List.set]
  exact st1_2 HQ FIN _ _ _ _ _ _ _ _ _ _ _ _ _ _ _ _ _ _ _ _ _ _ _ _ _ _ _ _ _ _ _ _ _ _ _ _ _ _ _ _ _ _ _ _ _ _ _ _ _ _ _ _ _ _ _ _ _ _ _ w.heap.size _ (kk.cell HP.out (fun f => f)) ((kk.block b (Array.getElem?_eq_some_iff.1 HB.out).1 (fun f => f)).trans HB.out) (HS.out.keptF kk) (HT.out.keptF kk) (HK.out.alloc _) CellsAt.new
 refine AllReadyH.cons at5_14 (fun K hK => ?_) AllReadyH.nil
 ·go_simp
  have kk := ((Kept.refl (fun _ => False) w).alloc (.cells #[.int .i64 3, .int .i64 1, .int .i64 0, .string ⟨#[97]⟩, .string ⟨#[104]⟩, .int .i64 10, .int .i64 0, .string ⟨#[111, 116, 104, 101, 114]⟩] 37))
  refine hK.out _ _ ⟨HS.out.keptF kk, HT.out.keptF kk⟩ (fun _ => ?_)
  (try simp only [Act.put]); try simp only [z2, List.set]
  exact st1_3 HQ FIN _ _ _ _ _ _ _ _ _ _ _ _ _ _ _ _ _ _ _ _ _ _ _ _ _ _ _ _ _ _ _ _ _ _ _ _ _ _ _ _ _ _ _ _ _ _ _ _ _ _ _ _ _ _ _ _ _ _ _ w.heap.size _ (kk.cell HP.out (fun f => f)) ((kk.block b (Array.getElem?_eq_some_iff.1 HB.out).1 (fun f => f)).trans HB.out) (HS.out.keptF kk) (HT.out.keptF kk) (HK.out.alloc _) CellsAt.new
set_option maxHeartbeats 4000000 in
set_option maxRecDepth 100000 in
theorem st0_0 (HQ : HQ5 Q) (FIN : FIN5 Q p b ns nt w0)
  (x0 x4 x5 x6 x7 x8 x9 x10 x11 x12 x13 x17 x20 x21 x24 x25 x28 x29 x30 x31 x32 x33 x34 x35 x36 x37 x38 x39 x40 x41 x42 x43 x44 x45 x46 x47 x48 x49 x50 x51 x52 x53 x54 x55 x56 x57 x58 x59 x60 x61 x62 x63 x64 x65 x66 x67 x68 x69 x70 x71 : Value) (g0 : Nat) (w : World) (hp : w.cell? ⟨p, 0, none⟩ = some (.map (some b))) (hb : w.heap[b]? = some (.map #[] 0)) (hs : CellsAt w ns ⟨#[]⟩) (ht : CellsAt w nt ⟨#[111, 116, 104, 101, 114]⟩) (hk : Kept (fun k => k = b) w0 w) (c0 : CellsAt w g0 ⟨#[]⟩) :
  wpAnyH Try.prog .any ops5 Q (S5 ns nt) 11 #[true, true, true, false, true, true, false, false, true, true, false, false, true, true, false, false, false, false, false, false] ⟨#[x0, .pointer (some ⟨p, 0, none⟩), .pointer (some ⟨ns, 0, none⟩), .pointer (some ⟨nt, 0, none⟩), x4, x5, x6, x7, x8, x9, x10, x11, x12, x13, .pointer (some ⟨p, 0, none⟩), .agg #[.int .i64 3, .int .i64 1, .int .i64 0, .string ⟨#[97]⟩, .string ⟨#[104]⟩, .int .i64 10, .int .i64 0, .string ⟨#[]⟩], .slice (some ⟨g0, 0, none⟩) 1 1, x17, .pointer (some ⟨p, 0, none⟩), .agg #[.int .i64 3, .int .i64 1, .int .i64 0, .string ⟨#[97]⟩, .string ⟨#[104]⟩, .int .i64 10, .int .i64 0, .string ⟨#[111, 116, 104, 101, 114]⟩], x20, x21, .pointer (some ⟨p, 0, none⟩), .agg #[.int .i64 3, .int .i64 1, .int .i64 0, .string ⟨#[97]⟩, .string ⟨#[104]⟩, .int .i64 10, .int .i64 0, .string ⟨#[111, 116, 104, 101, 114]⟩], x24, x25, .pointer (some ⟨p, 0, none⟩), .agg #[.int .i64 3, .int .i64 1, .int .i64 0, .string ⟨#[97]⟩, .string ⟨#[104]⟩, .int .i64 10, .int .i64 0, .string ⟨#[111, 116, 104, 101, 114]⟩], x28, x29, x30, x31, x32, x33, x34, x35, x36, x37, x38, x39, x40, x41, x42, x43, x44, x45, x46, x47, x48, x49, x50, x51, x52, x53, x54, x55, x56, x57, x58, x59, x60, x61, x62, x63, x64, x65, x66, x67, x68, x69, x70, x71], []⟩ w := by
 have HP := Lib.hid hp; have HB := Lib.hid hb; have HS := Lib.hid hs; have HT := Lib.hid ht; have HK := Lib.hid hk
 have C0 := Lib.hid c0
 clear hp hb hs ht hk c0
 refine wpAnyH_ready (rs := [3, 6, 10, 14]) (by kernel_rfl) (by simp) ?_
 refine AllReadyH.cons at5_3 (fun K hK => ?_) ?_
 ·go_simp
  go_at_call 9
  refine (take_new (n := ⟨#[]⟩) 20 (by omega) (by omega) (by decide) HP.out HB.out C0.out).mono ?_
  rintro e w' ⟨rfl, kk, mm⟩
  dsimp only
  refine hK.out _ _ ⟨(HS.out.keptB HB.out kk), (HT.out.keptB HB.out kk)⟩ (fun _ => ?_)
  (try simp only [Act.put]); try simp only [z2, List.set]
  exact st1_ HQ FIN _ _ _ _ _ _ _ _ _ _ _ _ _ _ _ _ _ _ _ _ _ _ _ _ _ _ _ _ _ _ _ _ _ _ _ _ _ _ _ _ _ _ _ _ _ _ _ _ _ _ _ _ _ _ _ _ _ _ _ _  _ mm.cell mm.map (HS.out.keptB HB.out kk) (HT.out.keptB HB.out kk) (HK.out.trans kk (fun _ _ h => h) (fun _ _ h => h))
 refine AllReadyH.cons at5_6 (fun K hK => ?_) ?_
 ·go_simp
  have kk := ((Kept.refl (fun _ => False) w).alloc (.cells #[.int .i64 3, .int .i64 1, .int .i64 0, .string ⟨#[97]⟩, .string ⟨#[104]⟩, .int .i64 10, .int .i64 0, .string ⟨#[111, 116, 104, 101, 114]⟩] 37))
  refine hK.out _ _ ⟨HS.out.keptF kk, HT.out.keptF kk⟩ (fun _ => ?_)
  (try simp only [Act.put]); try simp only [z2, List.set]
  exact st0_01 HQ FIN _ _ _ _ _ _ _ _ _ _ _ _ _ _ _ _ _ _ _ _ _ _ _ _ _ _ _ _ _ _ _ _ _ _ _ _ _ _ _ _ _ _ _ _ _ _ _ _ _ _ _ _ _ _ _ _ _ _ _ g0 w.heap.size _ (kk.cell HP.out (fun f => f)) ((kk.block b (Array.getElem?_eq_some_iff.1 HB.out).1 (fun f => f)).trans HB.out) (HS.out.keptF kk) (HT.out.keptF kk) (HK.out.alloc _) (C0.out.keptF kk) CellsAt.new
 refine AllReadyH.cons at5_10 (fun K hK => ?_) ?_
 ·go_simp
  have kk := ((Kept.refl (fun _ => False) w).alloc (.cells #[.int .i64 3, .int .i64 1, .int .i64 0, .string ⟨#[97]⟩, .string ⟨#[104]⟩, .int .i64 10, .int .i64 0, .string ⟨#[111, 116, 104, 101, 114]⟩] 37))
  refine hK.out _ _ ⟨HS.out.keptF kk, HT.out.keptF kk⟩ (fun _ => ?_)
  (try simp only [Act.put]); try simp only [z2, List.set]
  exact st0_02 HQ FIN _ _ _ _ _ _ _ _ _ _ _ _ _ _ _ _ _ _ _ _ _ _ _ _ _ _ _ _ _ _ _ _ _ _ _ _ _ _ _ _ _ _ _ _ _ _ _ _ _ _ _ _ _ _ _ _ _ _ _ g0 w.heap.size _ (kk.cell HP.out (fun f => f)) ((kk.block b (Array.getElem?_eq_some_iff.1 HB.out).1 (fun f => f)).trans HB.out) (HS.out.keptF kk) (HT.out.keptF kk) (HK.out.alloc _) (C0.out.keptF kk) CellsAt.new
 refine AllReadyH.cons at5_14 (fun K hK => ?_) AllReadyH.nil
 ·go_simp
  have kk := ((Kept.refl (fun _ => False) w).alloc (.cells #[.int .i64 3, .int .i64 1, .int .i64 0, .string ⟨#[97]⟩, .string ⟨#[104]⟩, .int .i64 10, .int .i64 0, .string ⟨#[111, 116, 104, 101, 114]⟩] 37))
  refine hK.out _ _ ⟨HS.out.keptF kk, HT.out.keptF kk⟩ (fun _ => ?_)
  (try simp only [Act.put]); try simp only [z2, List.set]
  exact st0_03 HQ FIN _ _ _ _ _ _ _ _ _ _ _ _ _ _ _ _ _ _ _ _ _ _ _ _ _ _ _ _ _ _ _ _ _ _ _ _ _ _ _ _ _ _ _ _ _ _ _ _ _ _ _ _ _ _ _ _ _ _ _ g0 w.heap.size _ (kk.cell HP.out (fun f => f)) ((kk.block b (Array.getElem?_eq_some_iff.1 HB.out).1 (fun f => f)).trans HB.out) (HS.out.keptF kk) (HT.out.keptF kk) (HK.out.alloc _) (C0.out.keptF kk) CellsAt.new
set_option maxHeartbeats 4000000 in
set_option maxRecDepth 100000 in
theorem st0_1 (HQ : HQ5 Q) (FIN : FIN5 Q p b ns nt w0)
  (x0 x4 x5 x6 x7 x8 x9 x10 x11 x12 x13 x16 x17 x21 x24 x25 x28 x29 x30 x31 x32 x33 x34 x35 x36 x37 x38 x39 x40 x41 x42 x43 x44 x45 x46 x47 x48 x49 x50 x51 x52 x53 x54 x55 x56 x57 x58 x59 x60 x61 x62 x63 x64 x65 x66 x67 x68 x69 x70 x71 : Value) (g1 : Nat) (w : World) (hp : w.cell? ⟨p, 0, none⟩ = some (.map (some b))) (hb : w.heap[b]? = some (.map #[] 0)) (hs : CellsAt w ns ⟨#[]⟩) (ht : CellsAt w nt ⟨#[111, 116, 104, 101, 114]⟩) (hk : Kept (fun k => k = b) w0 w) (c1 : CellsAt w g1 ⟨#[111, 116, 104, 101, 114]⟩) :
  wpAnyH Try.prog .any ops5 Q (S5 ns nt) 11 #[true, true, false, false, true, true, true, false, true, true, false, false, true, true, false, false, false, false, false, false] ⟨#[x0, .pointer (some ⟨p, 0, none⟩), .pointer (some ⟨ns, 0, none⟩), .pointer (some ⟨nt, 0, none⟩), x4, x5, x6, x7, x8, x9, x10, x11, x12, x13, .pointer (some ⟨p, 0, none⟩), .agg #[.int .i64 3, .int .i64 1, .int .i64 0, .string ⟨#[97]⟩, .string ⟨#[104]⟩, .int .i64 10, .int .i64 0, .string ⟨#[]⟩], x16, x17, .pointer (some ⟨p, 0, none⟩), .agg #[.int .i64 3, .int .i64 1, .int .i64 0, .string ⟨#[97]⟩, .string ⟨#[104]⟩, .int .i64 10, .int .i64 0, .string ⟨#[111, 116, 104, 101, 114]⟩], .slice (some ⟨g1, 0, none⟩) 1 1, x21, .pointer (some ⟨p, 0, none⟩), .agg #[.int .i64 3, .int .i64 1, .int .i64 0, .string ⟨#[97]⟩, .string ⟨#[104]⟩, .int .i64 10, .int .i64 0, .string ⟨#[111, 116, 104, 101, 114]⟩], x24, x25, .pointer (some ⟨p, 0, none⟩), .agg #[.int .i64 3, .int .i64 1, .int .i64 0, .string ⟨#[97]⟩, .string ⟨#[104]⟩, .int .i64 10, .int .i64 0, .string ⟨#[111, 116, 104, 101, 114]⟩], x28, x29, x30, x31, x32, x33, x34, x35, x36, x37, x38, x39, x40, x41, x42, x43, x44, x45, x46, x47, x48, x49, x50, x51, x52, x53, x54, x55, x56, x57, x58, x59, x60, x61, x62, x63, x64, x65, x66, x67, x68, x69, x70, x71], []⟩ w := by
 have HP := Lib.hid hp; have HB := Lib.hid hb; have HS := Lib.hid hs; have HT := Lib.hid ht; have HK := Lib.hid hk
 have C1 := Lib.hid c1
 clear hp hb hs ht hk c1
 refine wpAnyH_ready (rs := [2, 10, 14]) (by kernel_rfl) (by simp) ?_
 refine AllReadyH.cons at5_2 (fun K hK => ?_) ?_
 ·go_simp
  have kk := ((Kept.refl (fun _ => False) w).alloc (.cells #[.int .i64 3, .int .i64 1, .int .i64 0, .string ⟨#[97]⟩, .string ⟨#[104]⟩, .int .i64 10, .int .i64 0, .string ⟨#[]⟩] 37))
  refine hK.out _ _ ⟨HS.out.keptF kk, HT.out.keptF kk⟩ (fun _ => ?_)
  (try simp only [Act.put]); try simp only [z2, List.set]
  exact st0_01 HQ FIN _ _ _ _ _ _ _ _ _ _ _ _ _ _ _ _ _ _ _ _ _ _ _ _ _ _ _ _ _ _ _ _ _ _ _ _ _ _ _ _ _ _ _ _ _ _ _ _ _ _ _ _ _ _ _ _ _ _ _ w.heap.size g1 _ (kk.cell HP.out (fun f => f)) ((kk.block b (Array.getElem?_eq_some_iff.1 HB.out).1 (fun f => f)).trans HB.out) (HS.out.keptF kk) (HT.out.keptF kk) (HK.out.alloc _) CellsAt.new (C1.out.keptF kk)
 refine AllReadyH.cons at5_10 (fun K hK => ?_) ?_
 ·go_simp
  have kk := ((Kept.refl (fun _ => False) w).alloc (.cells #[.int .i64 3, .int .i64 1, .int .i64 0, .string ⟨#[97]⟩, .string ⟨#[104]⟩, .int .i64 10, .int .i64 0, .string ⟨#[111, 116, 104, 101, 114]⟩] 37))
  refine hK.out _ _ ⟨HS.out.keptF kk, HT.out.keptF kk⟩ (fun _ => ?_)
  (try simp only [Act.put]); try simp only [z2, List.set]
  exact st0_12 HQ FIN _ _ _ _ _ _ _ _ _ _ _ _ _ _ _ _ _ _ _ _ _ _ _ _ _ _ _ _ _ _ _ _ _ _ _ _ _ _ _ _ _ _ _ _ _ _ _ _ _ _ _ _ _ _ _ _ _ _ _ g1 w.heap.size _ (kk.cell HP.out (fun f => f)) ((kk.block b (Array.getElem?_eq_some_iff.1 HB.out).1 (fun f => f)).trans HB.out) (HS.out.keptF kk) (HT.out.keptF kk) (HK.out.alloc _) (C1.out.keptF kk) CellsAt.new
 refine AllReadyH.cons at5_14 (fun K hK => ?_) AllReadyH.nil
 ·go_simp
  have kk := ((Kept.refl (fun _ => False) w).alloc (.cells #[.int .i64 3, .int .i64 1, .int .i64 0, .string ⟨#[97]⟩, .string ⟨#[104]⟩, .int .i64 10, .int .i64 0, .string ⟨#[111, 116, 104, 101, 114]⟩] 37))
  refine hK.out _ _ ⟨HS.out.keptF kk, HT.out.keptF kk⟩ (fun _ => ?_)
  (try simp only [Act.put]); try simp only [z2, List.set]
  exact st0_13 HQ FIN _ _ _ _ _ _ _ _ _ _ _ _ _ _ _ _ _ _ _ _ _ _ _ _ _ _ _ _ _ _ _ _ _ _ _ _ _ _ _ _ _ _ _ _ _ _ _ _ _ _ _ _ _ _ _ _ _ _ _ g1 w.heap.size _ (kk.cell HP.out (fun f => f)) ((kk.block b (Array.getElem?_eq_some_iff.1 HB.out).1 (fun f => f)).trans HB.out) (HS.out.keptF kk) (HT.out.keptF kk) (HK.out.alloc _) (C1.out.keptF kk) CellsAt.new
set_option maxHeartbeats 4000000 in
set_option maxRecDepth 100000 in
theorem st0_2 (HQ : HQ5 Q) (FIN : FIN5 Q p b ns nt w0)
  (x0 x4 x5 x6 x7 x8 x9 x10 x11 x12 x13 x16 x17 x20 x21 x25 x28 x29 x30 x31 x32 x33 x34 x35 x36 x37 x38 x39 x40 x41 x42 x43 x44 x45 x46 x47 x48 x49 x50 x51 x52 x53 x54 x55 x56 x57 x58 x59 x60 x61 x62 x63 x64 x65 x66 x67 x68 x69 x70 x71 : Value) (g2 : Nat) (w : World) (hp : w.cell? ⟨p, 0, none⟩ = some (.map (some b))) (hb : w.heap[b]? = some (.map #[] 0)) (hs : CellsAt w ns ⟨#[]⟩) (ht : CellsAt w nt ⟨#[111, 116, 104, 101, 114]⟩) (hk : Kept (fun k => k = b) w0 w) (c2 : CellsAt w g2 ⟨#[111, 116, 104, 101, 114]⟩) :
  wpAnyH Try.prog .any ops5 Q (S5 ns nt) 11 #[true, true, false, false, true, true, false, false, true, true, true, false, true, true, false, false, false, false, false, false] ⟨#[x0, .pointer (some ⟨p, 0, none⟩), .pointer (some ⟨ns, 0, none⟩), .pointer (some ⟨nt, 0, none⟩), x4, x5, x6, x7, x8, x9, x10, x11, x12, x13, .pointer (some ⟨p, 0, none⟩), .agg #[.int .i64 3, .int .i64 1, .int .i64 0, .string ⟨#[97]⟩, .string ⟨#[104]⟩, .int .i64 10, .int .i64 0, .string ⟨#[]⟩], x16, x17, .pointer (some ⟨p, 0, none⟩), .agg #[.int .i64 3, .int .i64 1, .int .i64 0, .string ⟨#[97]⟩, .string ⟨#[104]⟩, .int .i64 10, .int .i64 0, .string ⟨#[111, 116, 104, 101, 114]⟩], x20, x21, .pointer (some ⟨p, 0, none⟩), .agg #[.int .i64 3, .int .i64 1, .int .i64 0, .string ⟨#[97]⟩, .string ⟨#[104]⟩, .int .i64 10, .int .i64 0, .string ⟨#[111, 116, 104, 101, 114]⟩], .slice (some ⟨g2, 0, none⟩) 1 1, x25, .pointer (some ⟨p, 0, none⟩), .agg #[.int .i64 3, .int .i64 1, .int .i64 0, .string ⟨#[97]⟩, .string ⟨#[104]⟩, .int .i64 10, .int .i64 0, .string ⟨#[111, 116, 104, 101, 114]⟩], x28, x29, x30, x31, x32, x33, x34, x35, x36, x37, x38, x39, x40, x41, x42, x43, x44, x45, x46, x47, x48, x49, x50, x51, x52, x53, x54, x55, x56, x57, x58, x59, x60, x61, x62, x63, x64, x65, x66, x67, x68, x69, x70, x71], []⟩ w := by
 have HP := Lib.hid hp; have HB := Lib.hid hb; have HS := Lib.hid hs; have HT := Lib.hid ht; have HK := Lib.hid hk
 have C2 := Lib.hid c2
 clear hp hb hs ht hk c2
 refine wpAnyH_ready (rs := [2, 6, 14]) (by kernel_rfl) (by simp) ?_
 refine AllReadyH.cons at5_2 (fun K hK => ?_) ?_
 ·go_simp
  have kk := ((Kept.refl (fun _ => False) w).alloc (.cells #[.int .i64 3, .int .i64 1, .int .i64 0, .string ⟨#[97]⟩, .string ⟨#[104]⟩, .int .i64 10, .int .i64 0, .string ⟨#[]⟩] 37))
  refine hK.out _ _ ⟨HS.out.keptF kk, HT.out.keptF kk⟩ (fun _ => ?_)
  (try simp only [Act.put]); try simp only [z2, List.set]
  exact st0_02 HQ FIN _ _ _ _ _ _ _ _ _ _ _ _ _ _ _ _ _ _ _ _ _ _ _ _ _ _ _ _ _ _ _ _ _ _ _ _ _ _ _ _ _ _ _ _ _ _ _ _ _ _ _ _ _ _ _ _ _ _ _ w.heap.size g2 _ (kk.cell HP.out (fun f => f)) ((kk.block b (Array.getElem?_eq_some_iff.1 HB.out).1 (fun f => f)).trans HB.out) (HS.out.keptF kk) (HT.out.keptF kk) (HK.out.alloc _) CellsAt.new (C2.out.keptF kk)
 refine AllReadyH.cons at5_6 (fun K hK => ?_) ?_
 ·go_simp
  have kk := ((Kept.refl (fun _ => False) w).alloc (.cells #[.int .i64 3, .int .i64 1, .int .i64 0, .string ⟨#[97]⟩, .string ⟨#[104]⟩, .int .i64 10, .int .i64 0, .string ⟨#[111, 116, 104, 101, 114]⟩] 37))
  refine hK.out _ _ ⟨HS.out.keptF kk, HT.out.keptF kk⟩ (fun _ => ?_)
  (try simp only [Act.put]); try simp only [z2, List.set]
  exact st0_12 HQ FIN _ _ _ _ _ _ _ _ _ _ _ _ _ _ _ _ _ _ _ _ _ _ _ _ _ _ _ _ _ _ _ _ _ _ _ _ _ _ _ _ _ _ _ _ _ _ _ _ _ _ _ _ _ _ _ _ _ _ _ w.heap.size g2 _ (kk.cell HP.out (fun f => f)) ((kk.block b (Array.getElem?_eq_some_iff.1 HB.out).1 (fun f => f)).trans HB.out) (HS.out.keptF kk) (HT.out.keptF kk) (HK.out.alloc _) CellsAt.new (C2.out.keptF kk)
 refine AllReadyH.cons at5_14 (fun K hK => ?_) AllReadyH.nil
 ·go_simp
  have kk := ((Kept.refl (fun _ => False) w).alloc (.cells #[.int .i64 3, .int .i64 1, .int .i64 0, .string ⟨#[97]⟩, .string ⟨#[104]⟩, .int .i64 10, .int .i64 0, .string ⟨#[111, 116, 104, 101, 114]⟩] 37))
  refine hK.out _ _ ⟨HS.out.keptF kk, HT.out.keptF kk⟩ (fun _ => ?_)
  (try simp only [Act.put]); try simp only [z2, List.set]
  exact st0_23 HQ FIN _ _ _ _ _ _ _ _ _ _ _ _ _ _ _ _ _ _ _ _ _ _ _ _ _ _ _ _ _ _ _ _ _ _ _ _ _ _ _ _ _ _ _ _ _ _ _ _ _ _ _ _ _ _ _ _ _ _ _ g2 w.heap.size _ (kk.cell HP.out (fun f => f)) ((kk.block b (Array.getElem?_eq_some_iff.1 HB.out).1 (fun f => f)).trans HB.out) (HS.out.keptF kk) (HT.out.keptF kk) (HK.out.alloc _) (C2.out.keptF kk) CellsAt.new
set_option maxHeartbeats 4000000 in
set_option maxRecDepth 100000 in
theorem st0_3 (HQ : HQ5 Q) (FIN : FIN5 Q p b ns nt w0)
  (x0 x4 x5 x6 x7 x8 x9 x10 x11 x12 x13 x16 x17 x20 x21 x24 x25 x29 x30 x31 x32 x33 x34 x35 x36 x37 x38 x39 x40 x41 x42 x43 x44 x45 x46 x47 x48 x49 x50 x51 x52 x53 x54 x55 x56 x57 x58 x59 x60 x61 x62 x63 x64 x65 x66 x67 x68 x69 x70 x71 : Value) (g3 : Nat) (w : World) (hp : w.cell? ⟨p, 0, none⟩ = some (.map (some b))) (hb : w.heap[b]? = some (.map #[] 0)) (hs : CellsAt w ns ⟨#[]⟩) (ht : CellsAt w nt ⟨#[111, 116, 104, 101, 114]⟩) (hk : Kept (fun k => k = b) w0 w) (c3 : CellsAt w g3 ⟨#[111, 116, 104, 101, 114]⟩) :
  wpAnyH Try.prog .any ops5 Q (S5 ns nt) 11 #[true, true, false, false, true, true, false, false, true, true, false, false, true, true, true, false, false, false, false, false] ⟨#[x0, .pointer (some ⟨p, 0, none⟩), .pointer (some ⟨ns, 0, none⟩), .pointer (some ⟨nt, 0, none⟩), x4, x5, x6, x7, x8, x9, x10, x11, x12, x13, .pointer (some ⟨p, 0, none⟩), .agg #[.int .i64 3, .int .i64 1, .int .i64 0, .string ⟨#[97]⟩, .string ⟨#[104]⟩, .int .i64 10, .int .i64 0, .string ⟨#[]⟩], x16, x17, .pointer (some ⟨p, 0, none⟩), .agg #[.int .i64 3, .int .i64 1, .int .i64 0, .string ⟨#[97]⟩, .string ⟨#[104]⟩, .int .i64 10, .int .i64 0, .string ⟨#[111, 116, 104, 101, 114]⟩], x20, x21, .pointer (some ⟨p, 0, none⟩), .agg #[.int .i64 3, .int .i64 1, .int .i64 0, .string ⟨#[97]⟩, .string ⟨#[104]⟩, .int .i64 10, .int .i64 0, .string ⟨#[111, 116, 104, 101, 114]⟩], x24, x25, .pointer (some ⟨p, 0, none⟩), .agg #[.int .i64 3, .int .i64 1, .int .i64 0, .string ⟨#[97]⟩, .string ⟨#[104]⟩, .int .i64 10, .int .i64 0, .string ⟨#[111, 116, 104, 101, 114]⟩], .slice (some ⟨g3, 0, none⟩) 1 1, x29, x30, x31, x32, x33, x34, x35, x36, x37, x38, x39, x40, x41, x42, x43, x44, x45, x46, x47, x48, x49, x50, x51, x52, x53, x54, x55, x56, x57, x58, x59, x60, x61, x62, x63, x64, x65, x66, x67, x68, x69, x70, x71], []⟩ w := by
 have HP := Lib.hid hp; have HB := Lib.hid hb; have HS := Lib.hid hs; have HT := Lib.hid ht; have HK := Lib.hid hk
 have C3 := Lib.hid c3
 clear hp hb hs ht hk c3
 refine wpAnyH_ready (rs := [2, 6, 10]) (by kernel_rfl) (by simp) ?_
 refine AllReadyH.cons at5_2 (fun K hK => ?_) ?_
 ·go_simp
  have kk := ((Kept.refl (fun _ => False) w).alloc (.cells #[.int .i64 3, .int .i64 1, .int .i64 0, .string ⟨#[97]⟩, .string ⟨#[104]⟩, .int .i64 10, .int .i64 0, .string ⟨#[]⟩] 37))
  refine hK.out _ _ ⟨HS.out.keptF kk, HT.out.keptF kk⟩ (fun _ => ?_)
  (try simp only [Act.put]); try simp only [z2, List.set]
  exact st0_03 HQ FIN _ _ _ _ _ _ _ _ _ _ _ _ _ _ _ _ _ _ _ _ _ _ _ _ _ _ _ _ _ _ _ _ _ _ _ _ _ _ _ _ _ _ _ _ _ _ _ _ _ _ _ _ _ _ _ _ _ _ _ w.heap.size g3 _ (kk.cell HP.out (fun f => f)) ((kk.block b (Array.getElem?_eq_some_iff.1 HB.out).1 (fun f => f)).trans HB.out) (HS.out.keptF kk) (HT.out.keptF kk) (HK.out.alloc _) CellsAt.new (C3.out.keptF kk)
 refine AllReadyH.cons at5_6 (fun K hK => ?_) ?_
 ·go_simp
  have kk := ((Kept.refl (fun _ => False) w).alloc (.cells #[.int .i64 3, .int .i64 1, .int .i64 0, .string ⟨#[97]⟩, .string ⟨#[104]⟩, .int .i64 10, .int .i64 0, .string ⟨#[111, 116, 104, 101, 114]⟩] 37))
  refine hK.out _ _ ⟨HS.out.keptF kk, HT.out.keptF kk⟩ (fun _ => ?_)
  (try simp only [Act.put]); try simp only [z2, List.set]
  exact st0_13 HQ FIN _ _ _ _ _ _ _ _ _ _ _ _ _ _ _ _ _ _ _ _ _ _ _ _ _ _ _ _ _ _ _ _ _ _ _ _ _ _ _ _ _ _ _ _ _ _ _ _ _ _ _ _ _ _ _ _ _ _ _ w.heap.size g3 _ (kk.cell HP.out (fun f => f)) ((kk.block b (Array.getElem?_eq_some_iff.1 HB.out).1 (fun f => f)).trans HB.out) (HS.out.keptF kk) (HT.out.keptF kk) (HK.out.alloc _) CellsAt.new (C3.out.keptF kk)
 refine AllReadyH.cons at5_10 (fun K hK => ?_) AllReadyH.nil
 ·go_simp
  have kk := ((Kept.refl (fun _ => False) w).alloc (.cells #[.int .i64 3, .int .i64 1, .int .i64 0, .string ⟨#[97]⟩, .string ⟨#[104]⟩, .int .i64 10, .int .i64 0, .string ⟨#[111, 116, 104, 101, 114]⟩] 37))
  refine hK.out _ _ ⟨HS.out.keptF kk, HT.out.keptF kk⟩ (fun _ => ?_)
  (try simp only [Act.put]); try simp only [z2, List.set]
  exact st0_23 HQ FIN _ _ _ _ _ _ _ _ _ _ _ _ _ _ _ _ _ _ _ _ _ _ _ _ _ _ _ _ _ _ _ _ _ _ _ _ _ _ _ _ _ _ _ _ _ _ _ _ _ _ _ _ _ _ _ _ _ _ _ w.heap.size g3 _ (kk.cell HP.out (fun f => f)) ((kk.block b (Array.getElem?_eq_some_iff.1 HB.out).1 (fun f => f)).trans HB.out) (HS.out.keptF kk) (HT.out.keptF kk) (HK.out.alloc _) CellsAt.new (C3.out.keptF kk)
set_option maxHeartbeats 4000000 in
set_option maxRecDepth 100000 in
theorem st0_ (HQ : HQ5 Q) (FIN : FIN5 Q p b ns nt w0)
  (x0 x4 x5 x6 x7 x8 x9 x10 x11 x12 x13 x16 x17 x20 x21 x24 x25 x28 x29 x30 x31 x32 x33 x34 x35 x36 x37 x38 x39 x40 x41 x42 x43 x44 x45 x46 x47 x48 x49 x50 x51 x52 x53 x54 x55 x56 x57 x58 x59 x60 x61 x62 x63 x64 x65 x66 x67 x68 x69 x70 x71 : Value) (w : World) (hp : w.cell? ⟨p, 0, none⟩ = some (.map (some b))) (hb : w.heap[b]? = some (.map #[] 0)) (hs : CellsAt w ns ⟨#[]⟩) (ht : CellsAt w nt ⟨#[111, 116, 104, 101, 114]⟩) (hk : Kept (fun k => k = b) w0 w) :
  wpAnyH Try.prog .any ops5 Q (S5 ns nt) 12 #[true, true, false, false, true, true, false, false, true, true, false, false, true, true, false, false, false, false, false, false] ⟨#[x0, .pointer (some ⟨p, 0, none⟩), .pointer (some ⟨ns, 0, none⟩), .pointer (some ⟨nt, 0, none⟩), x4, x5, x6, x7, x8, x9, x10, x11, x12, x13, .pointer (some ⟨p, 0, none⟩), .agg #[.int .i64 3, .int .i64 1, .int .i64 0, .string ⟨#[97]⟩, .string ⟨#[104]⟩, .int .i64 10, .int .i64 0, .string ⟨#[]⟩], x16, x17, .pointer (some ⟨p, 0, none⟩), .agg #[.int .i64 3, .int .i64 1, .int .i64 0, .string ⟨#[97]⟩, .string ⟨#[104]⟩, .int .i64 10, .int .i64 0, .string ⟨#[111, 116, 104, 101, 114]⟩], x20, x21, .pointer (some ⟨p, 0, none⟩), .agg #[.int .i64 3, .int .i64 1, .int .i64 0, .string ⟨#[97]⟩, .string ⟨#[104]⟩, .int .i64 10, .int .i64 0, .string ⟨#[111, 116, 104, 101, 114]⟩], x24, x25, .pointer (some ⟨p, 0, none⟩), .agg #[.int .i64 3, .int .i64 1, .int .i64 0, .string ⟨#[97]⟩, .string ⟨#[104]⟩, .int .i64 10, .int .i64 0, .string ⟨#[111, 116, 104, 101, 114]⟩], x28, x29, x30, x31, x32, x33, x34, x35, x36, x37, x38, x39, x40, x41, x42, x43, x44, x45, x46, x47, x48, x49, x50, x51, x52, x53, x54, x55, x56, x57, x58, x59, x60, x61, x62, x63, x64, x65, x66, x67, x68, x69, x70, x71], []⟩ w := by
 have HP := Lib.hid hp; have HB := Lib.hid hb; have HS := Lib.hid hs; have HT := Lib.hid ht; have HK := Lib.hid hk
 clear hp hb hs ht hk
 refine wpAnyH_ready (rs := [2, 6, 10, 14]) (by kernel_rfl) (by simp) ?_
 refine AllReadyH.cons at5_2 (fun K hK => ?_) ?_
 ·go_simp
  have kk := ((Kept.refl (fun _ => False) w).alloc (.cells #[.int .i64 3, .int .i64 1, .int .i64 0, .string ⟨#[97]⟩, .string ⟨#[104]⟩, .int .i64 10, .int .i64 0, .string ⟨#[]⟩] 37))
  refine hK.out _ _ ⟨HS.out.keptF kk, HT.out.keptF kk⟩ (fun _ => ?_)
  (try simp only [Act.put]); try simp only [z2, List.set]
  exact st0_0 HQ FIN _ _ _ _ _ _ _ _ _ _ _ _ _ _ _ _ _ _ _ _ _ _ _ _ _ _ _ _ _ _ _ _ _ _ _ _ _ _ _ _ _ _ _ _ _ _ _ _ _ _ _ _ _ _ _ _ _ _ _ _ w.heap.size _ (kk.cell HP.out (fun f => f)) ((kk.block b (Array.getElem?_eq_some_iff.1 HB.out).1 (fun f => f)).trans HB.out) (HS.out.keptF kk) (HT.out.keptF kk) (HK.out.alloc _) CellsAt.new
 refine AllReadyH.cons at5_6 (fun K hK => ?_) ?_
 ·go_simp
  have kk := ((Kept.refl (fun _ => False) w).alloc (.cells #[.int .i64 3, .int .i64 1, .int .i64 0, .string ⟨#[97]⟩, .string ⟨#[104]⟩, .int .i64 10, .int .i64 0, .string ⟨#[111, 116, 104, 101, 114]⟩] 37))
  refine hK.out _ _ ⟨HS.out.keptF kk, HT.out.keptF kk⟩ (fun _ => ?_)
  (try simp only [Act.put]); try simp only [z2, List.set]
  exact st0_1 HQ FIN _ _ _ _ _ _ _ _ _ _ _ _ _ _ _ _ _ _ _ _ _ _ _ _ _ _ _ _ _ _ _ _ _ _ _ _ _ _ _ _ _ _ _ _ _ _ _ _ _ _ _ _ _ _ _ _ _ _ _ _ w.heap.size _ (kk.cell HP.out (fun f => f)) ((kk.block b (Array.getElem?_eq_some_iff.1 HB.out).1 (fun f => f)).trans HB.out) (HS.out.keptF kk) (HT.out.keptF kk) (HK.out.alloc _) CellsAt.new
 refine AllReadyH.cons at5_10 (fun K hK => ?_) ?_
 ·go_simp
  have kk := ((Kept.refl (fun _ => False) w).alloc (.cells #[.int .i64 3, .int .i64 1, .int .i64 0, .string ⟨#[97]⟩, .string ⟨#[104]⟩, .int .i64 10, .int .i64 0, .string ⟨#[111, 116, 104, 101, 114]⟩] 37))
  refine hK.out _ _ ⟨HS.out.keptF kk, HT.out.keptF kk⟩ (fun _ => ?_)
  (try simp only [Act.put]); try simp only [z2, List.set]
  exact st0_2 HQ FIN _ _ _ _ _ _ _ _ _ _ _ _ _ _ _ _ _ _ _ _ _ _ _ _ _ _ _ _ _ _ _ _ _ _ _ _ _ _ _ _ _ _ _ _ _ _ _ _ _ _ _ _ _ _ _ _ _ _ _ _ w.heap.size _ (kk.cell HP.out (fun f => f)) ((kk.block b (Array.getElem?_eq_some_iff.1 HB.out).1 (fun f => f)).trans HB.out) (HS.out.keptF kk) (HT.out.keptF kk) (HK.out.alloc _) CellsAt.new
 refine AllReadyH.cons at5_14 (fun K hK => ?_) AllReadyH.nil
 ·go_simp
  have kk := ((Kept.refl (fun _ => False) w).alloc (.cells #[.int .i64 3, .int .i64 1, .int .i64 0, .string ⟨#[97]⟩, .string ⟨#[104]⟩, .int .i64 10, .int .i64 0, .string ⟨#[111, 116, 104, 101, 114]⟩] 37))
  refine hK.out _ _ ⟨HS.out.keptF kk, HT.out.keptF kk⟩ (fun _ => ?_)
  (try simp only [Act.put]); try simp only [z2, List.set]
  exact st0_3 HQ FIN _ _ _ _ _ _ _ _ _ _ _ _ _ _ _ _ _ _ _ _ _ _ _ _ _ _ _ _ _ _ _ _ _ _ _ _ _ _ _ _ _ _ _ _ _ _ _ _ _ _ _ _ _ _ _ _ _ _ _ _ w.heap.size _ (kk.cell HP.out (fun f => f)) ((kk.block b (Array.getElem?_eq_some_iff.1 HB.out).1 (fun f => f)).trans HB.out) (HS.out.keptF kk) (HT.out.keptF kk) (HK.out.alloc _) CellsAt.new
set_option maxHeartbeats 4000000 in
set_option maxRecDepth 100000 in
theorem region5 (HQ : HQ5 Q) (FIN : FIN5 Q p b ns nt w0)
  (x0 x4 x5 x6 x7 x8 x9 x10 x11 x12 x13 x14 x15 x16 x17 x18 x19 x20 x21 x22 x23 x24 x25 x26 x27 x28 x29 x30 x31 x32 x33 x34 x35 x36 x37 x38 x39 x40 x41 x42 x43 x44 x45 x46 x47 x48 x49 x50 x51 x52 x53 x54 x55 x56 x57 x58 x59 x60 x61 x62 x63 x64 x65 x66 x67 x68 x69 x70 x71 : Value) (hp : w0.cell? ⟨p, 0, none⟩ = some (.map (some b))) (hb : w0.heap[b]? = some (.map #[] 0)) (hs : CellsAt w0 ns ⟨#[]⟩) (ht : CellsAt w0 nt ⟨#[111, 116, 104, 101, 114]⟩) :
  (Code.region 5 ops5 true).wp Try.prog Q ⟨#[x0, .pointer (some ⟨p, 0, none⟩), .pointer (some ⟨ns, 0, none⟩), .pointer (some ⟨nt, 0, none⟩), x4, x5, x6, x7, x8, x9, x10, x11, x12, x13, x14, x15, x16, x17, x18, x19, x20, x21, x22, x23, x24, x25, x26, x27, x28, x29, x30, x31, x32, x33, x34, x35, x36, x37, x38, x39, x40, x41, x42, x43, x44, x45, x46, x47, x48, x49, x50, x51, x52, x53, x54, x55, x56, x57, x58, x59, x60, x61, x62, x63, x64, x65, x66, x67, x68, x69, x70, x71], []⟩ w0 := by
 refine wp_region_held_drew (S := S5 ns nt) (by kernel_rfl) ⟨hs, ht⟩ (fun hHeld => ?_)
 have FF := Lib.hid FIN; clear FIN
 refine wpAnyH_take (i := 0) (v := ?_) at5_0 (by kernel_rfl) (by kernel_rfl) (by kernel_rfl) (fun _ _ _ h => HQ _ _ _ _ _ h) (Or.inl ⟨by rfl, ?_⟩) hHeld ?_
 case refine_2 => (intro w hSw; clear hSw; go_simp; all_goals (with_reducible rfl))
 (try simp only [Act.put]); try simp only [z2, List.set]
 refine wpAnyH_take (i := 1) (v := ?_) at5_1 (by kernel_rfl) (by kernel_rfl) (by kernel_rfl) (fun _ _ _ h => HQ _ _ _ _ _ h) (Or.inl ⟨by rfl, ?_⟩) hHeld ?_
 case refine_2 => (intro w hSw; have q0 := hSw.1 0 _ rfl; have q1 := hSw.1 1 _ rfl; have q2 := hSw.1 2 _ rfl; have q3 := hSw.1 3 _ rfl; have q4 := hSw.1 4 _ rfl; have q5 := hSw.1 5 _ rfl; have q6 := hSw.1 6 _ rfl; have q7 := hSw.1 7 _ rfl; clear hSw; go_simp; all_goals (with_reducible rfl))
 (try simp only [Act.put]); try simp only [z2, List.set]
 refine wpAnyH_take (i := 4) (v := ?_) at5_4 (by kernel_rfl) (by kernel_rfl) (by kernel_rfl) (fun _ _ _ h => HQ _ _ _ _ _ h) (Or.inl ⟨by rfl, ?_⟩) hHeld ?_
 case refine_2 => (intro w hSw; clear hSw; go_simp; all_goals (with_reducible rfl))
 (try simp only [Act.put]); try simp only [z2, List.set]
 refine wpAnyH_take (i := 5) (v := ?_) at5_5 (by kernel_rfl) (by kernel_rfl) (by kernel_rfl) (fun _ _ _ h => HQ _ _ _ _ _ h) (Or.inl ⟨by rfl, ?_⟩) hHeld ?_
 case refine_2 => (intro w hSw; have q0 := hSw.2 0 _ rfl; have q1 := hSw.2 1 _ rfl; have q2 := hSw.2 2 _ rfl; have q3 := hSw.2 3 _ rfl; have q4 := hSw.2 4 _ rfl; have q5 := hSw.2 5 _ rfl; have q6 := hSw.2 6 _ rfl; have q7 := hSw.2 7 _ rfl; clear hSw; go_simp; all_goals (with_reducible rfl))
 (try simp only [Act.put]); try simp only [z2, List.set]
 refine wpAnyH_take (i := 8) (v := ?_) at5_8 (by kernel_rfl) (by kernel_rfl) (by kernel_rfl) (fun _ _ _ h => HQ _ _ _ _ _ h) (Or.inl ⟨by rfl, ?_⟩) hHeld ?_
 case refine_2 => (intro w hSw; clear hSw; go_simp; all_goals (with_reducible rfl))
 (try simp only [Act.put]); try simp only [z2, List.set]
 refine wpAnyH_take (i := 9) (v := ?_) at5_9 (by kernel_rfl) (by kernel_rfl) (by kernel_rfl) (fun _ _ _ h => HQ _ _ _ _ _ h) (Or.inl ⟨by rfl, ?_⟩) hHeld ?_
 case refine_2 => (intro w hSw; have q0 := hSw.2 0 _ rfl; have q1 := hSw.2 1 _ rfl; have q2 := hSw.2 2 _ rfl; have q3 := hSw.2 3 _ rfl; have q4 := hSw.2 4 _ rfl; have q5 := hSw.2 5 _ rfl; have q6 := hSw.2 6 _ rfl; have q7 := hSw.2 7 _ rfl; clear hSw; go_simp; all_goals (with_reducible rfl))
 (try simp only [Act.put]); try simp only [z2, List.set]
 refine wpAnyH_take (i := 12) (v := ?_) at5_12 (by kernel_rfl) (by kernel_rfl) (by kernel_rfl) (fun _ _ _ h => HQ _ _ _ _ _ h) (Or.inl ⟨by rfl, ?_⟩) hHeld ?_
 case refine_2 => (intro w hSw; clear hSw; go_simp; all_goals (with_reducible rfl))
 (try simp only [Act.put]); try simp only [z2, List.set]
 refine wpAnyH_take (i := 13) (v := ?_) at5_13 (by kernel_rfl) (by kernel_rfl) (by kernel_rfl) (fun _ _ _ h => HQ _ _ _ _ _ h) (Or.inl ⟨by rfl, ?_⟩) hHeld ?_
 case refine_2 => (intro w hSw; have q0 := hSw.2 0 _ rfl; have q1 := hSw.2 1 _ rfl; have q2 := hSw.2 2 _ rfl; have q3 := hSw.2 3 _ rfl; have q4 := hSw.2 4 _ rfl; have q5 := hSw.2 5 _ rfl; have q6 := hSw.2 6 _ rfl; have q7 := hSw.2 7 _ rfl; clear hSw; go_simp; all_goals (with_reducible rfl))
 (try simp only [Act.put]); try simp only [z2, List.set]
 exact st0_ HQ FF.out _ _ _ _ _ _ _ _ _ _ _ _ _ _ _ _ _ _ _ _ _ _ _ _ _ _ _ _ _ _ _ _ _ _ _ _ _ _ _ _ _ _ _ _ _ _ _ _ _ _ _ _ _ _ _ _ _ _ _ _ _ _ hp hb hs ht (Kept.refl _ _).drew
end
end Go.Proofs.Ytibakmchgppndaa
/- The chapter's example: at every call it returns true. -/
namespace Go.Proofs.Ytibakmchgppndaa
open Go.RowKit Go.MapKept Go.Instr Go.ChangeMaps

set_option maxHeartbeats 8000000 in
set_option maxRecDepth 100000 in
theorem lives_any (w : World) : Calls Try.prog 7 #[] w fun e w' => e = .returned (.bool true) ∧ Below w.heap.size w w' := by
 go_enter Try.func7, Try.ntmps7
 go_wp2_with fail
 refine (new_any w).mono ?_
 rintro e w1 ⟨rfl, k1, hp1, hb1⟩
 obtain ⟨p, hp⟩ : ∃ p, w.heap.size + 1 = p := ⟨_, rfl⟩
 obtain ⟨b, hb⟩ : ∃ b, w.heap.size = b := ⟨_, rfl⟩
 rw [hp, hb] at hp1
 rw [hb] at hb1
 rw [hp]
 have K1 := Lib.hid k1; have P1 := Lib.hid hp1; have B1 := Lib.hid hb1; have BE := Lib.hid hb
 clear k1 hp hb hp1 hb1
 go_wp2
 obtain ⟨W, hW⟩ : ∃ W, (w1.alloc (.cells #[.int .i64 3, .int .i64 1, .int .i64 0, .string ⟨#[97]⟩, .string ⟨#[104]⟩, .int .i64 10, .int .i64 0, .string ⟨#[]⟩] 37)).alloc (.cells #[.int .i64 3, .int .i64 1, .int .i64 0, .string ⟨#[97]⟩, .string ⟨#[104]⟩, .int .i64 10, .int .i64 0, .string ⟨#[111, 116, 104, 101, 114]⟩] 37) = W := ⟨_, rfl⟩
 obtain ⟨ns, hns⟩ : ∃ ns, w1.heap.size = ns := ⟨_, rfl⟩
 obtain ⟨nt, hnt⟩ : ∃ nt, ns + 1 = nt := ⟨_, rfl⟩
 have kA : Kept (fun _ => False) w1 (w1.alloc (.cells #[.int .i64 3, .int .i64 1, .int .i64 0, .string ⟨#[97]⟩, .string ⟨#[104]⟩, .int .i64 10, .int .i64 0, .string ⟨#[]⟩] 37)) := (Kept.refl _ w1).alloc _
 have kB : Kept (fun _ => False) (w1.alloc (.cells #[.int .i64 3, .int .i64 1, .int .i64 0, .string ⟨#[97]⟩, .string ⟨#[104]⟩, .int .i64 10, .int .i64 0, .string ⟨#[]⟩] 37)) W := by rw [← hW]; exact (Kept.refl _ _).alloc _
 have hs : CellsAt W ns ⟨#[]⟩ := by
  have h : CellsAt (w1.alloc (.cells #[.int .i64 3, .int .i64 1, .int .i64 0, .string ⟨#[97]⟩, .string ⟨#[104]⟩, .int .i64 10, .int .i64 0, .string ⟨#[]⟩] 37)) w1.heap.size ⟨#[]⟩ := CellsAt.new
  rw [hns] at h
  exact h.keptF kB
 have ht : CellsAt W nt ⟨#[111, 116, 104, 101, 114]⟩ := by
  have h : CellsAt ((w1.alloc (.cells #[.int .i64 3, .int .i64 1, .int .i64 0, .string ⟨#[97]⟩, .string ⟨#[104]⟩, .int .i64 10, .int .i64 0, .string ⟨#[]⟩] 37)).alloc (.cells #[.int .i64 3, .int .i64 1, .int .i64 0, .string ⟨#[97]⟩, .string ⟨#[104]⟩, .int .i64 10, .int .i64 0, .string ⟨#[111, 116, 104, 101, 114]⟩] 37)) (w1.alloc (.cells #[.int .i64 3, .int .i64 1, .int .i64 0, .string ⟨#[97]⟩, .string ⟨#[104]⟩, .int .i64 10, .int .i64 0, .string ⟨#[]⟩] 37)).heap.size ⟨#[111, 116, 104, 101, 114]⟩ := CellsAt.new
  rw [hW] at h
  have e : (w1.alloc (.cells #[.int .i64 3, .int .i64 1, .int .i64 0, .string ⟨#[97]⟩, .string ⟨#[104]⟩, .int .i64 10, .int .i64 0, .string ⟨#[]⟩] 37)).heap.size = nt := by rw [← hnt, ← hns]; simp
  rwa [e] at h
 have hp := (keptFF kA kB).cell P1.out (fun f => f)
 have hb := ((keptFF kA kB).block b (Array.getElem?_eq_some_iff.1 B1.out).1 (fun f => f)).trans B1.out
 have KW := Lib.hid (keptFF K1.out (keptFF kA kB))
 rw [hW, hns, hnt]
 clear hW hns hnt kA kB
 refine (fun (h : ∀ ops : Array Oper, ops = ops5 → (Code.region 5 ops true).wp Try.prog _ _ _) => h _ (by kernel_rfl)) ?_
 rintro ops rfl
 refine region5 (p := p) (b := b) (ns := ns) (nt := nt) (w0 := W) (fun _ _ _ _ _ h => h) ?_ _ _ _ _ _ _ _ _ _ _ _ _ _ _ _ _ _ _ _ _ _ _ _ _ _ _ _ _ _ _ _ _ _ _ _ _ _ _ _ _ _ _ _ _ _ _ _ _ _ _ _ _ _ _ _ _ _ _ _ _ _ _ _ _ _ _ _ _ _ hp hb hs ht
 clear hp hb hs ht
 intro x0 x8 x9 x10 x11 x12 x13 x16 x20 x24 x28 x30 x31 x32 x33 x34 x35 x36 x37 x38 x39 x40 x41 x42 x43 x44 x45 x46 x47 x48 x49 x50 x51 x52 x53 x54 x55 x56 x57 x58 x59 x60 x61 x62 x63 x64 x65 x66 x67 x68 x69 x70 x71 w5 hp hb hs hk
 have K5 := Lib.hid (KW.out.trans hk (fun _ _ f => f.elim) (fun _ _ h => h) : Kept (fun k => k = b) w w5)
 have HM5 := Lib.hid (show ModAt w5 p b ⟨#[]⟩ from ⟨hp, hb⟩)
 have HS5 := Lib.hid hs
 clear hp hb hs hk
 go_wp2_with fail
 refine (find_any HM5.out).mono ?_
 rintro e w6 ⟨k6, gI, cI, rfl, hgI⟩
 have hs6 := HS5.out.keptF k6
 have HM6 := Lib.hid (show ModAt w6.drew p b ⟨#[]⟩ from HM5.out.kept k6.drew)
 have HG := Lib.hid (show w6.drew.cell? ⟨gI, 0, none⟩ = some (.int .i64 3) from hgI)
 have KB := Lib.hid ((K5.out.trans k6 (fun _ _ h => h) (fun _ _ f => f.elim) : Kept (fun k => k = b) w w6).drew)
 clear k6 hgI
 go_wp2
 refine wp_region_held_drew (S := (fun w' => CellsAt w' ns ⟨#[]⟩)) (by kernel_rfl) ?_ (fun hHeld => ?_)
 ·exact hs6
 refine tW 0 opAt0 hHeld ?_
 (try simp only [Act.put]); try simp only [z2, List.set]
 refine tW 1 opAt1 hHeld ?_
 (try simp only [Act.put]); try simp only [z2, List.set]
 refine tW 2 opAt2 hHeld ?_
 (try simp only [Act.put]); try simp only [z2, List.set]
 refine tW 3 opAt3 hHeld ?_
 (try simp only [Act.put]); try simp only [z2, List.set]
 refine tW 4 opAt4 hHeld ?_
 (try simp only [Act.put]); try simp only [z2, List.set]
 refine tW 5 opAt5 hHeld ?_
 (try simp only [Act.put]); try simp only [z2, List.set]
 refine tW 6 opAt6 hHeld ?_
 (try simp only [Act.put]); try simp only [z2, List.set]
 refine tW 7 opAt7 hHeld ?_
 (try simp only [Act.put]); try simp only [z2, List.set]
 refine tW 8 opAt8 hHeld ?_
 (try simp only [Act.put]); try simp only [z2, List.set]
 refine tW 9 opAt9 hHeld ?_
 (try simp only [Act.put]); try simp only [z2, List.set]
 refine tW 10 opAt10 hHeld ?_
 (try simp only [Act.put]); try simp only [z2, List.set]
 refine tW 11 opAt11 hHeld ?_
 (try simp only [Act.put]); try simp only [z2, List.set]
 refine tW 12 opAt12 hHeld ?_
 (try simp only [Act.put]); try simp only [z2, List.set]
 refine tW 13 opAt13 hHeld ?_
 (try simp only [Act.put]); try simp only [z2, List.set]
 refine tW 14 opAt14 hHeld ?_
 (try simp only [Act.put]); try simp only [z2, List.set]
 refine tW 15 opAt15 hHeld ?_
 (try simp only [Act.put]); try simp only [z2, List.set]
 refine tH (v := ?_) 17 opAt17 ?_ hHeld ?_
 case refine_2 => (intro w hSw; have q0 := hSw 0 _ rfl; have q1 := hSw 1 _ rfl; have q2 := hSw 2 _ rfl; have q3 := hSw 3 _ rfl; have q4 := hSw 4 _ rfl; have q5 := hSw 5 _ rfl; have q6 := hSw 6 _ rfl; have q7 := hSw 7 _ rfl; clear hSw; go_simp; all_goals (with_reducible rfl))
 (try simp only [Act.put]); try simp only [z2, List.set]
 refine wpAnyH_ready (rs := [16, 18]) (by kernel_rfl) (by simp) ?_
 refine AllReadyH.cons opAt16 (fun K hK => ?_) ?_
 ·go_simp
  go_at_call 10; refine (spans_live 69 (by omega) (by omega) HM6.out).mono ?_; rintro e w8 ⟨k8, v, rfl, ho⟩; obtain ⟨g16, cap16, rfl, _, _, c16⟩ := row_one ho; clear ho; dsimp only
  refine hK.out _ _ ?_ (fun hHeld => ?_)
  ·exact hHeld.keptF k8
  clear hK K
  (try simp only [Act.put]); try simp only [z2, List.set]
  have K8 := Lib.hid k8
  refine wpAnyH_ready (rs := [18]) (by kernel_rfl) (by simp) ?_
  refine AllReadyH.cons opAt18 (fun K hK => ?_) AllReadyH.nil
  go_simp
  have kz := ((Kept.refl (fun _ => False) w8).alloc (.cells #[.int .i64 3, .int .i64 1, .int .i64 0, .string ⟨#[97]⟩, .string ⟨#[104]⟩, .int .i64 10, .int .i64 0, .string ⟨#[]⟩] 37))
  refine hK.out _ _ ?_ (fun hHeld => ?_)
  ·exact hHeld.keptF kz
  clear hK K
  (try simp only [Act.put]); try simp only [z2, List.set]
  refine wpAnyH_ready (rs := [19]) (by kernel_rfl) (by simp) ?_
  refine AllReadyH.cons opAt19 (fun K hK => ?_) AllReadyH.nil
  go_simp
  go_at_call 11; refine (samespans_one (CellsAt.keptF (g := g16) c16 kz) CellsAt.new).mono ?_; rintro e w9 ⟨rfl, k9⟩; have K9 := Lib.hid (keptFF (K8.out.alloc _) k9); dsimp only
  refine hK.out _ _ ?_ (fun hHeld => ?_)
  ·exact hHeld.keptF k9
  clear hK K
  (try simp only [Act.put]); try simp only [z2, List.set]
  refine tW 20 opAt20 hHeld ?_
  (try simp only [Act.put]); try simp only [z2, List.set]
  refine tW 21 opAt21 hHeld ?_
  (try simp only [Act.put]); try simp only [z2, List.set]
  refine tW 22 opAt22 hHeld ?_
  (try simp only [Act.put]); try simp only [z2, List.set]
  refine wpAnyH_ready (rs := [23]) (by kernel_rfl) (by simp) ?_
  refine AllReadyH.cons opAt23 (fun K hK => ?_) AllReadyH.nil
  go_simp
  go_at_call 10; refine (spans_gone 70 (by omega) (by omega) (HM6.out.kept K9.out)).mono ?_; rintro e w10 ⟨k10, rfl⟩; have K10 := Lib.hid (keptFF K9.out k10); dsimp only
  refine hK.out _ _ ?_ (fun hHeld => ?_)
  ·exact hHeld.keptF k10
  clear hK K
  (try simp only [Act.put]); try simp only [z2, List.set]
  refine tW 24 opAt24 hHeld ?_
  (try simp only [Act.put]); try simp only [z2, List.set]
  refine tW 25 opAt25 hHeld ?_
  (try simp only [Act.put]); try simp only [z2, List.set]
  refine tW 26 opAt26 hHeld ?_
  (try simp only [Act.put]); try simp only [z2, List.set]
  refine tW 27 opAt27 hHeld ?_
  (try simp only [Act.put]); try simp only [z2, List.set]
  refine tW 28 opAt28 hHeld ?_
  (try simp only [Act.put]); try simp only [z2, List.set]
  refine tW 29 opAt29 hHeld ?_
  (try simp only [Act.put]); try simp only [z2, List.set]
  refine tW 30 opAt30 hHeld ?_
  (try simp only [Act.put]); try simp only [z2, List.set]
  refine tW 31 opAt31 hHeld ?_
  (try simp only [Act.put]); try simp only [z2, List.set]
  refine tW 32 opAt32 hHeld ?_
  (try simp only [Act.put]); try simp only [z2, List.set]
  refine wpAnyH_ready (rs := [33]) (by kernel_rfl) (by simp) ?_
  refine AllReadyH.cons opAt33 (fun K hK => ?_) AllReadyH.nil
  go_simp
  have K11 := Lib.hid (K10.out.alloc (.cells #[.int .i64 3] 3))
  refine hK.out _ _ ?_ (fun hHeld => ?_)
  ·exact hHeld.keptF ((Kept.refl (fun _ => False) w10).alloc _)
  clear hK K
  (try simp only [Act.put]); try simp only [z2, List.set]
  refine wpAnyH_ready (rs := [34]) (by kernel_rfl) (by simp) ?_
  refine AllReadyH.cons opAt34 (fun K hK => ?_) AllReadyH.nil
  go_simp
  go_at_call 25; refine (sameints_one (K11.out.cell HG.out (fun f => f)) (by simp)).mono ?_; rintro e w12 ⟨rfl, k12⟩; have K12 := Lib.hid (keptFF K11.out k12); dsimp only
  refine hK.out _ _ ?_ (fun hHeld => ?_)
  ·exact hHeld.keptF k12
  clear hK K
  (try simp only [Act.put]); try simp only [z2, List.set]
  refine tW 35 opAt35 hHeld ?_
  (try simp only [Act.put]); try simp only [z2, List.set]
  refine tW 36 opAt36 hHeld ?_
  (try simp only [Act.put]); try simp only [z2, List.set]
  refine wpAnyH_done (by kernel_rfl) ?_ _
  go_wp2
  go_ret
  exact ⟨rfl, (KB.out.trans K12.out (fun _ _ h => h) (fun _ _ f => f.elim) : Kept (fun k => k = b) w w12).below (fun i hi h => by have := BE.out; omega)⟩
 refine AllReadyH.cons opAt18 (fun K hK => ?_) AllReadyH.nil
 ·go_simp
  skip
  refine hK.out _ _ ?_ (fun hHeld => ?_)
  ·exact hHeld.keptF ((Kept.refl (fun _ => False) w6.drew).alloc (.cells #[.int .i64 3, .int .i64 1, .int .i64 0, .string ⟨#[97]⟩, .string ⟨#[104]⟩, .int .i64 10, .int .i64 0, .string ⟨#[]⟩] 37))
  clear hK K
  (try simp only [Act.put]); try simp only [z2, List.set]
  have kz := ((Kept.refl (fun _ => False) w6.drew).alloc (.cells #[.int .i64 3, .int .i64 1, .int .i64 0, .string ⟨#[97]⟩, .string ⟨#[104]⟩, .int .i64 10, .int .i64 0, .string ⟨#[]⟩] 37))
  refine wpAnyH_ready (rs := [16]) (by kernel_rfl) (by simp) ?_
  refine AllReadyH.cons opAt16 (fun K hK => ?_) AllReadyH.nil
  go_simp
  go_at_call 10; refine (spans_live 69 (by omega) (by omega) (HM6.out.kept kz)).mono ?_; rintro e w8 ⟨k8, v, rfl, ho⟩; obtain ⟨g16, cap16, rfl, _, _, c16⟩ := row_one ho; clear ho; dsimp only
  refine hK.out _ _ ?_ (fun hHeld => ?_)
  ·exact hHeld.keptF k8
  clear hK K
  (try simp only [Act.put]); try simp only [z2, List.set]
  have K8 := Lib.hid (keptFF kz k8)
  refine wpAnyH_ready (rs := [19]) (by kernel_rfl) (by simp) ?_
  refine AllReadyH.cons opAt19 (fun K hK => ?_) AllReadyH.nil
  go_simp
  go_at_call 11; refine (samespans_one c16 (CellsAt.keptF CellsAt.new k8)).mono ?_; rintro e w9 ⟨rfl, k9⟩; have K9 := Lib.hid (keptFF K8.out k9); dsimp only
  refine hK.out _ _ ?_ (fun hHeld => ?_)
  ·exact hHeld.keptF k9
  clear hK K
  (try simp only [Act.put]); try simp only [z2, List.set]
  refine tW 20 opAt20 hHeld ?_
  (try simp only [Act.put]); try simp only [z2, List.set]
  refine tW 21 opAt21 hHeld ?_
  (try simp only [Act.put]); try simp only [z2, List.set]
  refine tW 22 opAt22 hHeld ?_
  (try simp only [Act.put]); try simp only [z2, List.set]
  refine wpAnyH_ready (rs := [23]) (by kernel_rfl) (by simp) ?_
  refine AllReadyH.cons opAt23 (fun K hK => ?_) AllReadyH.nil
  go_simp
  go_at_call 10; refine (spans_gone 70 (by omega) (by omega) (HM6.out.kept K9.out)).mono ?_; rintro e w10 ⟨k10, rfl⟩; have K10 := Lib.hid (keptFF K9.out k10); dsimp only
  refine hK.out _ _ ?_ (fun hHeld => ?_)
  ·exact hHeld.keptF k10
  clear hK K
  (try simp only [Act.put]); try simp only [z2, List.set]
  refine tW 24 opAt24 hHeld ?_
  (try simp only [Act.put]); try simp only [z2, List.set]
  refine tW 25 opAt25 hHeld ?_
  (try simp only [Act.put]); try simp only [z2, List.set]
  refine tW 26 opAt26 hHeld ?_
  (try simp only [Act.put]); try simp only [z2, List.set]
  refine tW 27 opAt27 hHeld ?_
  (try simp only [Act.put]); try simp only [z2, List.set]
  refine tW 28 opAt28 hHeld ?_
  (try simp only [Act.put]); try simp only [z2, List.set]
  refine tW 29 opAt29 hHeld ?_
  (try simp only [Act.put]); try simp only [z2, List.set]
  refine tW 30 opAt30 hHeld ?_
  (try simp only [Act.put]); try simp only [z2, List.set]
  refine tW 31 opAt31 hHeld ?_
  (try simp only [Act.put]); try simp only [z2, List.set]
  refine tW 32 opAt32 hHeld ?_
  (try simp only [Act.put]); try simp only [z2, List.set]
  refine wpAnyH_ready (rs := [33]) (by kernel_rfl) (by simp) ?_
  refine AllReadyH.cons opAt33 (fun K hK => ?_) AllReadyH.nil
  go_simp
  have K11 := Lib.hid (K10.out.alloc (.cells #[.int .i64 3] 3))
  refine hK.out _ _ ?_ (fun hHeld => ?_)
  ·exact hHeld.keptF ((Kept.refl (fun _ => False) w10).alloc _)
  clear hK K
  (try simp only [Act.put]); try simp only [z2, List.set]
  refine wpAnyH_ready (rs := [34]) (by kernel_rfl) (by simp) ?_
  refine AllReadyH.cons opAt34 (fun K hK => ?_) AllReadyH.nil
  go_simp
  go_at_call 25; refine (sameints_one (K11.out.cell HG.out (fun f => f)) (by simp)).mono ?_; rintro e w12 ⟨rfl, k12⟩; have K12 := Lib.hid (keptFF K11.out k12); dsimp only
  refine hK.out _ _ ?_ (fun hHeld => ?_)
  ·exact hHeld.keptF k12
  clear hK K
  (try simp only [Act.put]); try simp only [z2, List.set]
  refine tW 35 opAt35 hHeld ?_
  (try simp only [Act.put]); try simp only [z2, List.set]
  refine tW 36 opAt36 hHeld ?_
  (try simp only [Act.put]); try simp only [z2, List.set]
  refine wpAnyH_done (by kernel_rfl) ?_ _
  go_wp2
  go_ret
  exact ⟨rfl, (KB.out.trans K12.out (fun _ _ h => h) (fun _ _ f => f.elim) : Kept (fun k => k = b) w w12).below (fun i hi h => by have := BE.out; omega)⟩
end Go.Proofs.Ytibakmchgppndaa
