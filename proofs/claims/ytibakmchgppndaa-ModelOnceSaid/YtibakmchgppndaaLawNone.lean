/- ModelNone, walked whole: at every input it returns true. -/
import Derived.Test.YtibakmchgppndaaSpn
namespace Go.Proofs.Ytibakmchgppndaa
open Go.RowKit Go.MapKept Go.Instr Go.ChangeMaps

def AnyB (e : Ending) : Prop := ∃ r : Bool, e = .returned (.bool r)
set_option maxHeartbeats 4000000 in
set_option maxRecDepth 100000 in
theorem beyond_any {w : World} {v : Value} {L : List Spn} (h : ReadsS w v L) (hl : L.length ≤ 9223372036854775807) (hfit : ∀ y ∈ L, y.se.size ≤ 9223372036854775807 ∧ y.ho.size ≤ 9223372036854775807 ∧ y.no.size ≤ 9223372036854775807) :
    Calls Try.prog 27 #[v, .int .i64 20] w fun e w' => AnyB e ∧ w = w' := by
  obtain ⟨ao, cap, rfl, h⟩ := h
  have HR := Lib.hid h
  clear h
  by_cases h20 : L.length ≤ 20
  · have e1 : ¬ (20 : Int) < (L.length : Int) := by omega
    go_enter Try.func27, Try.ntmps27
    go_wp2
    go_loopg [5] L.length (fun gh t wr => ∃ k : Nat, k + gh = L.length ∧ t = .int .i64 k ∧ wr = w)
    case atStart => exact ⟨0, by omega, rfl, rfl⟩
    case round =>
      obtain ⟨k, hk, rfl, rfl⟩ := hrel
      have hk1 : k ≤ L.length := by omega
      have JK := Lib.hid hk
      clear hk
      by_cases hlt : k < L.length
      · rcases HR.out with h0 | ⟨g, o, rfl, hc⟩
        · rw [h0] at hlt; simp at hlt
        obtain ⟨m, hm⟩ : ∃ m, L[k]? = some m := ⟨_, List.getElem?_eq_getElem hlt⟩
        obtain ⟨_, _, _, c3, c4, _, _, c7⟩ := ReadsS.at hc hm
        have f := hfit m (List.mem_of_getElem? hm)
        have i1 : (0 : Int) ≤ (k : Int) := by omega
        have i2 : (k : Int) < (L.length : Int) := by omega
        obtain ⟨b1, hb1⟩ : ∃ b, decide ((100 : Int) < (m.se.size : Int)) = b := ⟨_, rfl⟩
        have f1 := f.1; have f2 := f.2.1; have f3 := f.2.2
        clear hc hm f hb1
        by_cases g1 : (100 : Int) < (m.se.size : Int)
        · go_wp2
          go_ret
          exact ⟨⟨_, rfl⟩, rfl⟩
        · by_cases g2 : (100 : Int) < (m.ho.size : Int)
          · go_wp2
            go_ret
            exact ⟨⟨_, rfl⟩, rfl⟩
          · by_cases g3 : (100 : Int) < (m.no.size : Int)
            · go_wp2
              go_ret
              exact ⟨⟨_, rfl⟩, rfl⟩
            · go_wp2
              go_roundg (L.length - k - 1)
              case measure => have := JK.out; omega
              case rel => exact ⟨k + 1, by omega, by go_num, rfl⟩
      · have e3 : ¬ (k : Int) < (L.length : Int) := by omega
        go_wp2
        go_ret
        exact ⟨⟨_, rfl⟩, rfl⟩
  · have e1 : (20 : Int) < (L.length : Int) := by omega
    go_enter Try.func27, Try.ntmps27
    go_wp2
    go_ret
    exact ⟨⟨_, rfl⟩, rfl⟩

set_option maxHeartbeats 8000000 in
set_option maxRecDepth 100000 in
theorem modelNone_any (w : World) (v : Value) (L : List Spn) (t now : Int) (h : ReadsS w v L) (hl : L.length ≤ 9223372036854775807) (hfit : ∀ y ∈ L, y.se.size ≤ 9223372036854775807 ∧ y.ho.size ≤ 9223372036854775807 ∧ y.no.size ≤ 9223372036854775807) :
    Calls Try.prog 5 #[v, .int .i64 t, .int .i64 now] w fun e w' => e = .returned (.bool true) ∧ Below w.heap.size w w' := by
  have B := Lib.hid (beyond_any h hl hfit)
  clear h hl hfit
  go_enter Try.func5, Try.ntmps5
  go_wp2_with fail
  refine B.out.mono ?_
  rintro e w1 ⟨⟨r, rfl⟩, rfl⟩
  cases r with
  | true =>
    go_wp2_with fail
    refine (lives_any w).mono ?_
    rintro e w2 ⟨rfl, k2⟩
    have K2 := Lib.hid k2; clear k2
    go_wp2
    go_ret
    exact ⟨rfl, K2.out⟩
  | false =>
    go_wp2
    go_loopg [7, 8] 2 (fun gh s t wr => ∃ k : Nat, k + gh = 2 ∧ t = .int .i64 k ∧ NoneAt wr s ∧ Kept (fun _ => False) w wr)
    case atStart => exact ⟨0, by omega, rfl, .inl rfl, Kept.refl _ _⟩
    case round =>
      obtain ⟨k, hk, rfl, hn, kw⟩ := hrel
      have JK := Lib.hid hk; have KF := Lib.hid kw; have HN := Lib.hid hn
      clear hk kw hn
      by_cases hlt : k < 2
      · have i1 : (k : Int) < 2 := by omega
        go_wp2_with fail
        refine (get_none t now HN.out).mono ?_
        rintro e w2 ⟨rfl, k2⟩
        obtain ⟨W2, hW2⟩ : ∃ W, w2.alloc (.cells #[.int .i64 0, .slice none 0 0] 46) = W := ⟨_, rfl⟩
        obtain ⟨n2, hn2⟩ : ∃ n, w2.heap.size = n := ⟨_, rfl⟩
        have kk2 : Kept (fun _ => False) wr W2 := by rw [← hW2]; exact k2.alloc _
        have c2 : W2.cell? ⟨n2, 1, none⟩ = some (.slice none 0 0) := by rw [← hW2, ← hn2]; simp
        have HN2 := Lib.hid (HN.out.kept kk2)
        have K2 := Lib.hid (keptFF KF.out kk2)
        have W2E := Lib.hid hW2; have N2E := Lib.hid hn2
        clear k2 hW2 hn2 kk2
        go_wp2_with fail
        rw [W2E.out, N2E.out]
        refine (scan_none 0 5 now HN2.out).mono ?_
        rintro e w3 ⟨rfl, k3⟩
        replace c2 := k3.cell c2 (fun f => f)
        obtain ⟨W3, hW3⟩ : ∃ W, w3.alloc (.cells #[.slice none 0 0, .int .i64 0, .bool false] 52) = W := ⟨_, rfl⟩
        obtain ⟨n3, hn3⟩ : ∃ n, w3.heap.size = n := ⟨_, rfl⟩
        have kk3 : Kept (fun _ => False) W2 W3 := by rw [← hW3]; exact k3.alloc _
        have c3 : W3.cell? ⟨n3, 0, none⟩ = some (.slice none 0 0) := by rw [← hW3, ← hn3]; simp
        replace c2 : W3.cell? ⟨n2, 1, none⟩ = some (.slice none 0 0) := by rw [← hW3]; exact ((Kept.refl (fun _ => False) w3).alloc _).cell c2 (fun f => f)
        have HN3 := Lib.hid (HN2.out.kept kk3)
        have K3 := Lib.hid (keptFF K2.out kk3)
        have W3E := Lib.hid hW3; have N3E := Lib.hid hn3
        clear k3 hW3 hn3 kk3
        go_wp2_with fail
        rw [W3E.out, N3E.out]
        refine (find_none now HN3.out).mono ?_
        rintro e w4 ⟨rfl, k4⟩
        replace c2 := k4.cell c2 (fun f => f)
        replace c3 := k4.cell c3 (fun f => f)
        have HN4 := Lib.hid (HN3.out.kept k4)
        have K4 := Lib.hid (keptFF K3.out k4)
        clear k4
        go_wp2_with fail
        refine (tree_none t now HN4.out).mono ?_
        rintro e w5 ⟨rfl, k5⟩
        replace c2 := k5.cell c2 (fun f => f)
        replace c3 := k5.cell c3 (fun f => f)
        obtain ⟨W5, hW5⟩ : ∃ W, w5.alloc (.cells #[.slice none 0 0, .slice none 0 0] 60) = W := ⟨_, rfl⟩
        obtain ⟨n5, hn5⟩ : ∃ n, w5.heap.size = n := ⟨_, rfl⟩
        have kk5 : Kept (fun _ => False) w4 W5 := by rw [← hW5]; exact k5.alloc _
        have c5 : W5.cell? ⟨n5, 0, none⟩ = some (.slice none 0 0) := by rw [← hW5, ← hn5]; simp
        replace c2 : W5.cell? ⟨n2, 1, none⟩ = some (.slice none 0 0) := by rw [← hW5]; exact ((Kept.refl (fun _ => False) w5).alloc _).cell c2 (fun f => f)
        replace c3 : W5.cell? ⟨n3, 0, none⟩ = some (.slice none 0 0) := by rw [← hW5]; exact ((Kept.refl (fun _ => False) w5).alloc _).cell c3 (fun f => f)
        have HN5 := Lib.hid (HN4.out.kept kk5)
        have K5 := Lib.hid (keptFF K4.out kk5)
        have W5E := Lib.hid hW5; have N5E := Lib.hid hn5
        clear k5 hW5 hn5 kk5
        go_wp2_with fail
        rw [W5E.out, N5E.out]
        refine (take_none v now HN5.out).mono ?_
        rintro e w6 ⟨rfl, rfl⟩
        go_wp2_with fail
        refine (spans_none now HN5.out).mono ?_
        rintro e w7 ⟨rfl, rfl⟩
        go_wp2
        go_roundg (2 - k - 1)
        case measure => have := JK.out; omega
        case rel =>
          have hj := JK.out
          refine ⟨k + 1, by omega, by go_num, .inr ⟨_, rfl, ?_⟩, K5.out.alloc _⟩
          simp
      · have i1 : ¬ (k : Int) < 2 := by omega
        go_wp2_with fail
        refine (lives_any wr).mono ?_
        rintro e w2 ⟨rfl, k2⟩
        have K2 := Lib.hid ((KF.out.below (fun _ _ f => f)).trans (k2.mono KF.out.size)); clear k2
        go_wp2
        go_ret
        exact ⟨rfl, K2.out⟩
theorem spans_open2 {H : Type} {enc : TypeId × Value → H} {w : World} {spare : Nat → Bool} {held : Bool} {fuel : Nat} {a : Option Addr} {len cap : Nat} {x : DataW H × List MemPlace} (h : DataW.trod enc Try.prog w 0 spare held fuel 27 [.slice a len cap] = some x) :
    ∃ R : List Spn, ReadsS w (.slice a len cap) R ∧ R.length ≤ maxLen ∧ ∀ y ∈ R, y.se.size ≤ maxLen ∧ y.ho.size ≤ maxLen ∧ y.no.size ≤ maxLen := by
  obtain ⟨v, hc, R, h⟩ := spans_open h
  obtain rfl : .slice a len cap = v := by simpa using hc
  exact ⟨R, h⟩
end Go.Proofs.Ytibakmchgppndaa
