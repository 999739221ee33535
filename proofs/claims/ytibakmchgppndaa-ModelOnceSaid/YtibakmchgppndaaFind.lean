/- (*Model).Find of the chapter's span; SameSpans, SameInts of one. -/
import Derived.Test.YtibakmchgppndaaTake
namespace Go.Proofs.Ytibakmchgppndaa
open Go.RowKit Go.MapKept Go.Instr Go.ChangeMaps

theorem inf3 : (Try.prog.info? 3).map (fun i => (i.zero, i.size, i.bytes)) = some (some (.int .i64 0), 1, 8) := by kernel_rfl
set_option maxRecDepth 100000 in
theorem compact_one (a : Option Addr) (c : Nat) (w : World) : Calls Try.prog 42 #[.slice a 1 c] w fun e w' => e = .returned (.slice a 1 c) ∧ w = w' := by
  go_enter Try.func42, Try.ntmps42
  go_wp2
  go_ret
  exact ⟨rfl, rfl⟩
theorem row_one {w : World} {base : Nat} {v : Value} {e : ByteArray} (h : w.ownsRow base 37 8 v 1 (cells8 e)) : ∃ g cap, v = .slice (some ⟨g, 0, none⟩) 1 cap ∧ 1 ≤ cap ∧ g < w.heap.size ∧ ∀ j u, (cells8 e)[j]? = some u → w.cell? ⟨g, j, none⟩ = some u := by
  rcases row_form h with ⟨_, h0⟩ | ⟨g, cap, rfl, h1, h2, h3, h4⟩
  · omega
  · exact ⟨g, cap, rfl, h1, h3, h4⟩

set_option maxHeartbeats 4000000 in
set_option maxRecDepth 100000 in
theorem find_any {w : World} {p b : Nat} (h : ModAt w p b ⟨#[]⟩) :
    Calls Try.prog 20 #[.pointer (some ⟨p, 0, none⟩), .agg #[.string ⟨#[97]⟩, .string ⟨#[104]⟩, .int .i64 10, .int .i64 10, .int .i64 5], .int .i64 30] w fun e w' => Kept (fun _ => False) w w' ∧ ∃ g cap, e = .returned (.tuple #[.slice (some ⟨g, 0, none⟩) 1 cap, .int .i64 0]) ∧ w'.cell? ⟨g, 0, none⟩ = some (.int .i64 3) := by
  obtain ⟨i0, hi0, hz0, hz1, hz2⟩ := info_parts inf3
  have N0 := Lib.hid (name_one ⟨#[97]⟩ 97 rfl (by omega) (by omega))
  have N1 := Lib.hid (name_one ⟨#[104]⟩ 104 rfl (by omega) (by omega))
  have HM := Lib.hid h
  clear h
  go_enter Try.func20, Try.ntmps20
  go_wp2_with fail
  obtain ⟨W, hW⟩ : ∃ W, w.alloc (.cells #[.string ⟨#[97]⟩, .string ⟨#[104]⟩, .int .i64 10, .int .i64 10, .int .i64 5] 40) = W := ⟨_, rfl⟩
  obtain ⟨nq, hnq⟩ : ∃ nq, w.heap.size = nq := ⟨_, rfl⟩
  have k0 : Kept (fun _ => False) w W := by rw [← hW]; exact (Kept.refl _ w).alloc _
  have q0 : W.cell? ⟨nq, 0, none⟩ = some (.string ⟨#[97]⟩) := by rw [← hW, ← hnq]; simp
  have q1 : W.cell? ⟨nq, 1, none⟩ = some (.string ⟨#[104]⟩) := by rw [← hW, ← hnq]; simp
  have q2 : W.cell? ⟨nq, 2, none⟩ = some (.int .i64 10) := by rw [← hW, ← hnq]; simp
  have q3 : W.cell? ⟨nq, 3, none⟩ = some (.int .i64 10) := by rw [← hW, ← hnq]; simp
  have q4 : W.cell? ⟨nq, 4, none⟩ = some (.int .i64 5) := by rw [← hW, ← hnq]; simp
  rw [hW, hnq]
  have K0 := Lib.hid k0
  have M0 := Lib.hid (HM.out.kept k0)
  clear hW k0 hnq
  refine (none_not p b W M0.out.cell).mono ?_
  rintro e w1 ⟨rfl, rfl⟩
  go_wp2_with fail
  refine (N0.out _).mono ?_
  rintro e w2 ⟨rfl, k2⟩
  replace q0 := k2.cell q0 (fun f => f)
  replace q1 := k2.cell q1 (fun f => f)
  replace q2 := k2.cell q2 (fun f => f)
  replace q3 := k2.cell q3 (fun f => f)
  replace q4 := k2.cell q4 (fun f => f)
  have K2 := Lib.hid (keptFF K0.out k2)
  clear k2
  go_wp2_with fail
  refine (N1.out _).mono ?_
  rintro e w3 ⟨rfl, k3⟩
  replace q0 := k3.cell q0 (fun f => f)
  replace q1 := k3.cell q1 (fun f => f)
  replace q2 := k3.cell q2 (fun f => f)
  replace q3 := k3.cell q3 (fun f => f)
  replace q4 := k3.cell q4 (fun f => f)
  have K3 := Lib.hid (keptFF K2.out k3)
  clear k3
  go_wp2_with fail
  refine (spans_live 30 (by omega) (by omega) (HM.out.kept K3.out)).mono ?_
  rintro e w4 ⟨k4, v, rfl, ho⟩
  obtain ⟨g, cap, rfl, hcap, hg, hc⟩ := row_one ho
  replace q0 := k4.cell q0 (fun f => f)
  replace q1 := k4.cell q1 (fun f => f)
  replace q2 := k4.cell q2 (fun f => f)
  replace q3 := k4.cell q3 (fun f => f)
  replace q4 := k4.cell q4 (fun f => f)
  have K4 := Lib.hid (keptFF K3.out k4)
  have c0 := hc 0 _ rfl
  have c1 := hc 1 _ rfl
  have c2 := hc 2 _ rfl
  have c3 := hc 3 _ rfl
  have c4 := hc 4 _ rfl
  have c5 := hc 5 _ rfl
  have c6 := hc 6 _ rfl
  have c7 := hc 7 _ rfl
  clear k4 ho hc
  go_wp2
  go_loopg [8, 49] 1 (fun gh s t wr => (gh = 1 ∧ s = .slice none 0 0 ∧ t = .int .i64 0 ∧ wr = w4) ∨ (gh = 0 ∧ t = .int .i64 1 ∧ Kept (fun _ => False) w wr ∧ Kept (fun _ => False) w4 wr ∧ ∃ ao cap, s = .slice ao 1 cap ∧ wr.ownsRow w.heap.size 3 1 s 1 [.int .i64 3]))
  case atStart => exact .inl ⟨rfl, rfl, rfl, rfl⟩
  case round =>
    rcases hrel with ⟨rfl, rfl, rfl, rfl⟩ | ⟨rfl, rfl, kw, kw4, ao, cap2, rfl, ho⟩
    · have kz : Kept (fun _ => False) wr (wr.alloc (Obj.cells #[.int .i64 3, .int .i64 1, .int .i64 0, .string ⟨#[97]⟩, .string ⟨#[104]⟩, .int .i64 10, .int .i64 0, .string ⟨#[]⟩] 37)) := (Kept.refl (fun _ => False) wr).alloc _
      have a0 := kz.cell q0 (fun f => f)
      have a1 := kz.cell q1 (fun f => f)
      have a2 := kz.cell q2 (fun f => f)
      have a3 := kz.cell q3 (fun f => f)
      have a4 := kz.cell q4 (fun f => f)
      have KZ := Lib.hid kz
      have sz := K4.out.size
      have nw : ∀ j u, ([.int .i64 3] : List Value)[j]? = some u → ((wr.alloc (Obj.cells #[.int .i64 3, .int .i64 1, .int .i64 0, .string ⟨#[97]⟩, .string ⟨#[104]⟩, .int .i64 10, .int .i64 0, .string ⟨#[]⟩] 37)).alloc (.cells #[.int .i64 3] 3)).cell? ((⟨wr.heap.size + 1, 0, none⟩ : Addr).add j) = some u := by
        have := World.news_of_block (heap_alloc_new (wr.alloc (Obj.cells #[.int .i64 3, .int .i64 1, .int .i64 0, .string ⟨#[97]⟩, .string ⟨#[104]⟩, .int .i64 10, .int .i64 0, .string ⟨#[]⟩] 37)) (.cells #[.int .i64 3] 3))
        simpa using this
      clear kz
      go_wp2_with (at_builtin; refine wpList_append_own _ rfl _ _ 55 rfl w.heap.size 3 i0 _ 1 8 Try.underlying55 hi0 hz0 hz1 hz2 rfl (by decide) _ _ _ rfl (World.ownsRow_nil _ _ _ _) ⟨wr.heap.size + 1, 0, none⟩ 1 1 [.int .i64 3] rfl rfl nw ?qa ?qb ?qc ?qd ?_)
      case qa => rfl
      case qb => unfold maxLen; omega
      case qd => first | omega | (simp; omega)
      intro v' w5 hown hgrow hnil
      have K6 := Lib.hid ((KZ.out.alloc (Obj.cells #[.int .i64 3] 3)).grown hgrow (fun k hk hlt => by simp [Value.ownBlock] at hk))
      have O6 := Lib.hid hown
      obtain ⟨ao, cap3, rfl⟩ : ∃ a c, v' = .slice a 1 c := by
        rcases row_form hown with ⟨_, hn⟩ | ⟨g, c, h, _⟩
        · omega
        · exact ⟨_, c, h⟩
      clear hown hgrow hnil a0 a1 a2 a3 a4
      go_wp2
      go_roundg 0
      case measure => omega
      case rel => exact .inr ⟨rfl, by go_num, keptFF K4.out K6.out, K6.out, ao, cap3, rfl, by simpa using O6.out⟩
    · replace q4 := kw4.cell q4 (fun f => f)
      have KW := Lib.hid kw; have O := Lib.hid ho
      obtain ⟨g2, hao, h0⟩ : ∃ g2, ao = some ⟨g2, 0, none⟩ ∧ wr.cell? ⟨g2, 0, none⟩ = some (.int .i64 3) ∧ 1 ≤ cap2 := by
        rcases row_form ho with ⟨_, h0⟩ | ⟨g, c, h, h1, _, _, h4⟩
        · omega
        · simp only [Value.slice.injEq] at h
          obtain ⟨rfl, _, rfl⟩ := h
          exact ⟨g, rfl, h4 0 _ rfl, h1⟩
      subst hao
      have i1 : (1 : Int) ≤ (cap2 : Int) := by omega
      have H0 := Lib.hid h0.1
      clear kw kw4 ho h0
      go_wp2_with (go_at_call 42; refine (compact_one _ cap2 _).mono ?_; rintro e w5 ⟨rfl, rfl⟩)
      refine bodyPost_ret (v := _) (by simp [results, Try.results20, go_sem]; try rfl) rfl ?_
      exact ⟨KW.out, g2, cap2, rfl, H0.out⟩
end Go.Proofs.Ytibakmchgppndaa
