/- The walks over the reference's net, second part: Send, Lose, Take, Double. -/
import Derived.Test.YtgafedmabaeemaaRef
import Derived.Deep.RegionLaw
namespace Go.Proofs.Ytgafedmabaeemaa
open Go.RowKit

/-- What a method of the reference's net may turn. -/
def RefS (r : Nat) (v : Value) : Nat → Prop := fun k => k = r ∨ v.ownBlock = some k

/-- What a method of the reference's net leaves. -/
structure RefNow (w w' : World) (base r : Nat) (v : Value) (L : List Mail) : Prop where
  ok : ∃ v', RefOk w' base r v' L ∧ ∀ k, v'.ownBlock = some k → v.ownBlock = some k ∨ w.heap.size ≤ k
  kept : Kept (RefS r v) w w'

theorem not_refS {r : Nat} {v : Value} {k : Nat} (h1 : k ≠ r) (h2 : v.ownBlock ≠ some k) : ¬ RefS r v k := fun h => h.elim h1 h2

/-- The list's slice is stored anew. -/
theorem rstore {w w2 : World} {base r : Nat} {v v2 : Value} {L0 L : List Mail} {T : Nat → Prop} (h : RefOk w base r v L0) (hK : Kept T w w2) (hT : ∀ k, k < w.heap.size → T k → v.ownBlock = some k)
    (hown : w2.ownsRow base 31 3 v2 L.length (cellsL L)) (hb : ∀ k, v2.ownBlock = some k → v.ownBlock = some k ∨ w.heap.size ≤ k) (hle : L.length ≤ 64) : RefNow w (w2.setCell ⟨r, 0, none⟩ v2) base r v L := by
  have hc : w2.heap[r]? = some (.cells #[v] 29 (0, 0)) := (hK.block r h.lt (fun e => h.apart (hT r h.lt e))).trans h.cell
  have hne : v2.ownBlock ≠ some r := fun e => by
    rcases hb r e with e' | e'
    · exact h.apart e'
    · have := h.lt; omega
  refine ⟨⟨v2, ⟨?_, ?_, hne, hle⟩, hb⟩, (hK.mono (T := RefS r v) (fun k hk e => .inr (hT k hk e))).setCell (fun _ => .inl rfl) _⟩
  · rw [heap_setCell_same w2 r 0 #[v] 29 v2 hc]; rfl
  · exact hown.keptBy (S := fun k => k = r) ((Kept.refl (fun k => k = r) w2).setCell (fun _ => rfl) _) (fun k hk e => hne (by rw [hk, e]))

theorem heap_second (w : World) (o1 o2 : Obj) : ((w.alloc o1).alloc o2).heap[w.heap.size + 1]? = some o2 := by
  have e : (w.alloc o1).heap.size = w.heap.size + 1 := by simp
  have := heap_alloc_new (w.alloc o1) o2
  rwa [e] at this
theorem grown_kept {w w' : World} {row : Option Nat} (h : w.grownBy w' row) : Kept (fun k => row = some k) w w' :=
  ⟨h.os, h.tape, h.output, h.size, fun k hk hne => h.block k hk (fun e => hne e.symm)⟩
theorem mail_one (m : Mail) : ∀ u ∈ [Value.int IntKind.i64 m.f, Value.int IntKind.i64 m.t, Value.string m.d], u.oneCell' = true := by
  intro u hu; simp at hu; rcases hu with rfl | rfl | rfl <;> rfl

set_option maxHeartbeats 1000000 in
theorem rsend_full (w : World) (base r : Nat) (v : Value) (L : List Mail) (m : Mail) (h : RefOk w base r v L) (hl : ¬ L.length < 64) :
    Calls Try.prog 26 #[.pointer (some ⟨r, 0, none⟩), m.val] w fun e w' => e = .returned (.bool false) ∧ Kept (fun _ => False) w w' := by
  have hr := h.read
  have hlt := h.lt
  rcases row_form h.row with ⟨rfl, hn⟩ | ⟨g, cap, rfl, hc, _, hg, hcell⟩
  · omega
  · have hle := h.le
    have h64 : (64 : Int) ≤ (L.length : Int) := by omega
    clear h hcell
    unfold Mail.val
    go_enter Try.func26, Try.ntmps26
    go_wp2
    go_ret
    exact ⟨rfl, (Kept.refl _ _).alloc _⟩

set_option maxHeartbeats 2000000 in
theorem rsend_room (w : World) (base r : Nat) (v : Value) (L : List Mail) (m : Mail) (h : RefOk w base r v L) (hl : L.length < 64) (hb : base ≤ w.heap.size) :
    Calls Try.prog 26 #[.pointer (some ⟨r, 0, none⟩), m.val] w fun e w' => e = .returned (.bool true) ∧ RefNow w w' base r v (L ++ [m]) := by
  obtain ⟨i0, hi0, hz0, hz1, hz2⟩ := info_parts Try.info31
  have hr := h.read
  have hlt := h.lt
  have hfz := h.frozen 0
  have hown := h.row
  have H := Lib.hid h
  have hf : ∃ ao cap, v = .slice ao L.length cap := by
    rcases row_form h.row with ⟨rfl, hn⟩ | ⟨g, cap, rfl, hc, _, _, _⟩
    · exact ⟨none, 0, by rw [hn]⟩
    · exact ⟨_, _, rfl⟩
  obtain ⟨ao, cap, rfl⟩ := hf
  have O := Lib.hid hown
  clear h hown
  have hd : decide ((64 : Int) ≤ (L.length : Int)) = false := by simp; omega
  have a1 : ¬ (Value.slice ao L.length cap).ownBlock = some r := H.out.apart
  have a2 : ¬ (Value.slice ao L.length cap).ownBlock = some w.heap.size := fun e => by have := (O.out.lt _ e).2; omega
  unfold Mail.val
  go_enter Try.func26, Try.ntmps26
  go_wp2
  go_region_law
    ((refine step_app (by rfl) _ _ 27 (by rfl) base 31 i0 _ 3 32 Try.underlying27 hi0 hz0 hz1 hz2 (by rfl) (by decide) _ L.length _ (by rfl) ((O.out.alloc _).alloc _) ⟨w.heap.size + 1, 0, none⟩ 1 1 [.int .i64 m.f, .int .i64 m.t, .string m.d] (by rfl) (by rfl) ?_ ?_ ?_ ?_ ?_ ?_; (exact World.news_of_block (heap_second w _ _)); (exact mail_one m); (unfold maxLen; omega); omega; (simp; omega); intro ao' cap' w2 hown2 hgr hat; (have KG := grown_kept hgr); (have s0 := KG.cell (a := ⟨r, 0, none⟩) (v := .slice ao L.length cap) (by simp [go_sem, hr, hlt]) a1); (have s1 := KG.cell (a := ⟨w.heap.size, 0, none⟩) (v := .int .i64 m.f) (by simp [go_sem]) a2); (have s2 := KG.cell (a := ⟨w.heap.size, 1, none⟩) (v := .int .i64 m.t) (by simp [go_sem]) a2); (have s3 := KG.cell (a := ⟨w.heap.size, 2, none⟩) (v := .string m.d) (by simp [go_sem]) a2); (have sf := KG.frozen (a := ⟨r, 0, none⟩) (by simp [go_sem, hfz, hlt]) (by simp; omega) a1)))
  all_goals go_wp2
  all_goals go_ret
  all_goals
    refine ⟨rfl, rstore (L := L ++ [m]) (T := fun k => (Value.slice ao L.length cap).ownBlock = some k) H.out ?_ (fun _ _ h => h) ?_ ?_ (by simp; omega)⟩
    · have k1 := (((Kept.refl (fun _ => False) w).alloc (Obj.cells #[Value.int IntKind.i64 m.f, Value.int IntKind.i64 m.t, Value.string m.d] 31)).alloc (Obj.cells #[Value.int IntKind.i64 m.f, Value.int IntKind.i64 m.t, Value.string m.d] 31)).drew
      exact k1.trans KG (fun _ _ f => f.elim) (fun _ _ h => h)
    · have e1 : cellsL (L ++ [m]) = cellsL L ++ [.int .i64 m.f, .int .i64 m.t, .string m.d] := by rw [cellsL_append]; rfl
      rw [e1, List.length_append]
      exact hown2
    · intro k hk
      rcases hat with e | e
      · exact .inl (e ▸ hk)
      · rw [hk] at e; have := Option.some.inj e; simp at this; right; omega
end Go.Proofs.Ytgafedmabaeemaa
