/- A part of the proof. -/
import Derived.Maps.OwnOps
import Derived.Test.YthknocapablpaaaGreatDoorAh29
/- rows.Take of spans that may be, by whatever is there. -/
namespace Go.Proofs.YthknocapablpaaaGreatDoor
set_option maxRecDepth 100000
open Go.RowKit Go.MapKept Go.Instr Go.ChangeMaps

def TakenAs (w : World) (now : Int) (oldB : ByteArray → Bool) (L : List Spn) (e : Ending) (w' : World) : Prop :=
 ∃ vo vc, e = .returned (.tuple #[vo, vc]) ∧ w'.ownsRow w.heap.size 96 8 vo (takeR now oldB L []).length (cellsS (takeR now oldB L [])) ∧ w'.ownsRow w.heap.size 132 3 vc (2 * (takeR now oldB L []).length) (cellsT (takeR now oldB L [])) ∧ Kept (fun _ => False) w w'
/-- A cell. -/
structure Ce where
 ke : ByteArray
 sq : Int
 va : ByteArray
 deriving Inhabited
def aggC (c : Ce) : Value := .agg #[.string c.ke, .int .i64 c.sq, .string c.va]

set_option maxHeartbeats 8000000 in
set_option maxRecDepth 100000 in
theorem take_rows {w : World} {p v : Value} {L : List Spn} (now : Int) (gc : ByteArray → Ce) (gb : ByteArray → Bool) (dr : Ce → Bool) (hr : ReadsS w v L) (hl : L.length ≤ 20) (hchk : ∀ m ∈ L, chkB m = true) (hnow : now ≤ 9223372036854775807)
  (G : ∀ w', Kept (fun _ => False) w w' → ∀ k, (∃ m ∈ L, keyS m = k) → Calls Tryz.prog 51 #[p, .string k] w' fun e w'' => e = .returned (.tuple #[aggC (gc k), .bool (gb k)]) ∧ Kept (fun _ => False) w' w'')
  (D : ∀ w' k, (∃ m ∈ L, keyS m = k) → gb k = true → Calls Tryz.prog 79 #[aggC (gc k), .int .i64 now] w' fun e w'' => e = .returned (.bool (dr (gc k))) ∧ Kept (fun _ => False) w' w'') :
  Calls Tryz.prog 50 #[.func (.func 51) #[p] #[], v, .int .i64 now] w (TakenAs w now (fun k => gb k && !dr (gc k)) L) := by
 obtain ⟨ao, cap, rfl, h⟩ := hr
 obtain ⟨i0, hi0, hz0, hz1, hz2⟩ := info_parts inf111
 obtain ⟨j0, hj0, hy0, hy1, hy2⟩ := info_parts inf38
 have HR := Lib.hid h
 have CHK := Lib.hid hchk
 have GG := Lib.hid G
 have DD := Lib.hid D
 have tt : ∀ {a b c : World}, Kept (fun _ => False) a b → Kept (fun _ => False) b c → Kept (fun _ => False) a c := fun h k => h.trans k (fun _ _ h => h) (fun _ _ h => h)
 have MK : ∀ W : World, (makeMap 174 none).run Tryz.prog W = .ok (.map (some W.heap.size)) (W.alloc (.map #[] 0)) := fun W => run_makeMap 230 W
 obtain ⟨n, hn⟩ : ∃ n, L.length = n := ⟨_, rfl⟩
 rw [hn] at hl ⊢
 have HN := Lib.hid hn
 clear h hchk G D hn
 unfold TakenAs
 obtain ⟨old, hold⟩ : ∃ old, (fun k => gb k && !dr (gc k)) = old := ⟨_, rfl⟩
 rw [hold]
 obtain ⟨T, hT⟩ : ∃ T, takeR now old L [] = T := ⟨_, rfl⟩
 rw [hT]
 have HO := Lib.hid hold
 have HT := Lib.hid hT
 clear hold hT
 go_enter Tryz.func50, Tryz.ntmps50
 go_wp2
 obtain ⟨b, hb⟩ : ∃ b, w.heap.size = b := ⟨_, rfl⟩
 have HB := Lib.hid hb
 rw [hb]
 go_loopg [20, 8, 9] n (fun gh t vo vc wr => ∃ (i : Nat) (O : List Spn) (K : List ByteArray), i + gh = n ∧ t = .int .i64 i ∧ O.length ≤ i ∧ Kept (fun _ => False) w wr ∧ MapIs wr b (seenV K) ∧ wr.ownsRow b 96 8 vo O.length (cellsS O) ∧ wr.ownsRow b 132 3 vc (2 * O.length) (cellsT O) ∧ O ++ takeR now old (L.drop i) K = T)
 case atStart => exact ⟨0, [], [], by omega, rfl, by simp, (Kept.refl _ _).alloc _, by rw [← HB.out]; exact heap_alloc_new w _, World.ownsRow_nil _ _ _ _, World.ownsRow_nil _ _ _ _, by rw [List.drop_zero, List.nil_append]; exact HT.out⟩
 case round =>
  obtain ⟨i, O, K, ji, rfl, oi, hK, hM, hO, hC, hT⟩ := hrel
  rename_i vo vc _
  have JI := Lib.hid ji
  have KW := Lib.hid hK
  have TT := Lib.hid hT
  have OI := Lib.hid oi
  obtain ⟨ov, oc, rfl⟩ := own_slice hO
  obtain ⟨cv, cc, rfl⟩ := own_slice hC
  have MM := Lib.hid hM
  have OO := Lib.hid hO
  have OC := Lib.hid hC
  clear ji hK hT oi hM hO hC
  by_cases hlt : i < n
  ·rcases HR.out with e0 | ⟨g0, o0, rfl, hc⟩
   ·have := HN.out; rw [e0] at this; simp at this; omega
   obtain ⟨m, hm⟩ : ∃ m, L[i]? = some m := ⟨_, List.getElem?_eq_getElem (by rw [HN.out]; exact hlt)⟩
   obtain ⟨q0, q1, q2, q3, q4, q5, q6, q7⟩ := ReadsS.at (fun j u hu => KW.out.cell (hc j u hu) (fun f => f)) hm
   have hB := CHK.out m (List.mem_of_getElem? hm)
   have gn := chk_num hB
   have MEM := Lib.hid (List.mem_of_getElem? hm)
   have C := Lib.hid (fun w => cells_good m w hB)
   have X := Lib.hid (expired_all m now (by omega) hnow (by omega))
   have DS := Lib.hid (drop_step hm)
   have i1 : (0 : Int) ≤ (i : Int) := by omega
   have i2 : (i : Int) < (n : Int) := by omega
   clear hc hm hB gn
   unfold aggS at C X
   obtain ⟨late, hlate⟩ : ∃ late, lateB m.st now = late := ⟨_, rfl⟩
   have LT := Lib.hid hlate
   rw [hlate] at X
   clear hlate
   go_wp2_with fail
   refine (C.out _).mono ?_
   rintro e w1 ⟨g, rfl, hg, h2, k1⟩
   have MID := Lib.hid (show Mid w1 b wr.heap.size g b m K (.slice ov O.length oc) (.slice cv (2 * O.length) cc) O from
    ⟨SpanAt.new.keptF k1, h2, (MM.out.kept ((Kept.refl (fun _ => False) wr).alloc _) (fun f => f)).kept k1 (fun f => f), own_kept (own_kept OO.out ((Kept.refl (fun _ => False) wr).alloc _) (fun _ _ f => f)) k1 (fun _ _ f => f), own_kept (own_kept OC.out ((Kept.refl (fun _ => False) wr).alloc _) (fun _ _ f => f)) k1 (fun _ _ f => f), fun q hq e => by have := own_lt2 OO.out hq; simp at hg; omega⟩)
   have K1 := Lib.hid (tt KW.out (tt ((Kept.refl _ _).alloc _) k1))
   obtain ⟨ns, hns⟩ : ∃ ns, wr.heap.size = ns := ⟨_, rfl⟩
   rw [hns] at MID ⊢
   clear hg h2 k1 q0 q1 q2 q3 q4 q5 q6 q7 MM OO OC hns
   have s0 : w1.cell? ⟨ns, 0, none⟩ = some (.int .i64 m.tr) := MID.out.span 0 _ rfl
   have s1 : w1.cell? ⟨ns, 1, none⟩ = some (.int .i64 m.id) := MID.out.span 1 _ rfl
   have s2 : w1.cell? ⟨ns, 2, none⟩ = some (.int .i64 m.pa) := MID.out.span 2 _ rfl
   have s3 : w1.cell? ⟨ns, 3, none⟩ = some (.string m.se) := MID.out.span 3 _ rfl
   have s4 : w1.cell? ⟨ns, 4, none⟩ = some (.string m.ho) := MID.out.span 4 _ rfl
   have s5 : w1.cell? ⟨ns, 5, none⟩ = some (.int .i64 m.st) := MID.out.span 5 _ rfl
   have s6 : w1.cell? ⟨ns, 6, none⟩ = some (.int .i64 m.du) := MID.out.span 6 _ rfl
   have s7 : w1.cell? ⟨ns, 7, none⟩ = some (.string m.no) := MID.out.span 7 _ rfl
   go_wp2_with fail
   refine (X.out _).mono ?_
   rintro e w2 ⟨rfl, k2⟩
   have M2 := Lib.hid (MID.out.keptF k2)
   have K2 := Lib.hid (tt K1.out k2)
   clear k2 s0 s1 s2 s3 s4 s5 s6 s7 MID K1 C X
   cases late with
   | true =>
    go_wp2
    go_roundg (n - i - 1)
    case measure => have := JI.out; omega
    case rel =>
     have e := TT.out
     rw [← DS.out, takeR, LT.out, Bool.true_or, Bool.true_or] at e
     exact ⟨i + 1, O, K, by have := JI.out; omega, by go_num, by have := OI.out; omega, K2.out, M2.out.map, M2.out.out, M2.out.cells, e⟩
   | false =>
    obtain ⟨kk, hkk⟩ : ∃ kk, keyF m.tr m.id = kk := ⟨_, rfl⟩
    have KK := Lib.hid hkk
    have c0 : w2.cell? ⟨g, 0, none⟩ = some (.string kk) := by rw [← hkk]; exact M2.out.two 0 _ rfl
    have LK := look_seen M2.out.map kk
    obtain ⟨sn, hsn⟩ : ∃ sn, decide (kk ∈ K) = sn := ⟨_, rfl⟩
    have SN := Lib.hid hsn
    rw [hsn] at LK
    clear hsn hkk
    cases sn with
    | true =>
     unfold oneN at LK
     go_wp2
     go_roundg (n - i - 1)
     case measure => have := JI.out; omega
     case rel =>
      have e := TT.out
      rw [← DS.out, takeR, LT.out, show keyS m = kk from KK.out, SN.out, Bool.or_true, Bool.true_or] at e
      exact ⟨i + 1, O, K, by have := JI.out; omega, by go_num, by have := OI.out; omega, K2.out, M2.out.map, M2.out.out, M2.out.cells, e⟩
    | false =>
     unfold oneN at LK
     have GC := Lib.hid (GG.out w2 K2.out kk ⟨m, MEM.out, KK.out⟩)
     unfold aggC at GC
     obtain ⟨gk, hgk⟩ : ∃ gk, gb kk = gk := ⟨_, rfl⟩
     have GK := Lib.hid hgk
     rw [hgk] at GC
     clear hgk
     cases gk with
     | false =>
      go_upto_region 11 with (go_at_call 51; refine GC.out.mono ?_; rintro e w3 ⟨rfl, k3⟩)
      have M3 := fun o => (M2.out.keptF k3).keptF ((Kept.refl (fun _ => False) w3).alloc o)
      have K3 := fun o => tt K2.out (tt k3 ((Kept.refl (fun _ => False) w3).alloc o))
      generalize hW4 : w3.alloc _ = W4
      have M4 := Lib.hid (hW4 ▸ M3 _)
      have K4 := Lib.hid (hW4 ▸ K3 _)
      clear hW4 M3 K3 k3 c0 LK M2 K2 GC
      have c0 : W4.cell? ⟨g, 0, none⟩ = some (.string kk) := by rw [← KK.out]; exact M4.out.two 0 _ rfl
      have LK := look_seen M4.out.map kk
      rw [SN.out] at LK
      unfold oneN at LK
      obtain ⟨W5, hU, mU, kU⟩ := upd_seen M4.out.map SN.out
      have M5 := Lib.hid (M4.out.seen kU mU)
      have K5 := Lib.hid (show Kept (fun _ => False) w W5 from K4.out.trans kU (fun _ _ f => f) (fun q hq e => by have := HB.out; omega))
      have s0 : W5.cell? ⟨ns, 0, none⟩ = some (.int .i64 m.tr) := M5.out.span 0 _ rfl
      have s1 : W5.cell? ⟨ns, 1, none⟩ = some (.int .i64 m.id) := M5.out.span 1 _ rfl
      have s2 : W5.cell? ⟨ns, 2, none⟩ = some (.int .i64 m.pa) := M5.out.span 2 _ rfl
      have s3 : W5.cell? ⟨ns, 3, none⟩ = some (.string m.se) := M5.out.span 3 _ rfl
      have s4 : W5.cell? ⟨ns, 4, none⟩ = some (.string m.ho) := M5.out.span 4 _ rfl
      have s5 : W5.cell? ⟨ns, 5, none⟩ = some (.int .i64 m.st) := M5.out.span 5 _ rfl
      have s6 : W5.cell? ⟨ns, 6, none⟩ = some (.int .i64 m.du) := M5.out.span 6 _ rfl
      have s7 : W5.cell? ⟨ns, 7, none⟩ = some (.string m.no) := M5.out.span 7 _ rfl
      clear mU kU
      go_wp2_with (at_builtin; refine wpList_append_own _ rfl _ _ 30 rfl b 96 i0 _ 8 88 Tryz.underlying30 hi0 hz0 hz1 hz2 rfl (by decide) _ _ _ rfl (own_kept M5.out.out ((Kept.refl (fun _ => False) W5).alloc _) (fun _ _ f => f)) ⟨W5.heap.size, 0, none⟩ 1 1 m.cells rfl rfl (World.news_of_block (heap_alloc_new W5 _)) ?qa ?qb ?qc ?qd ?_)
      case qa => intro u hu; simp [Spn.cells] at hu; rcases hu with rfl | rfl | rfl | rfl | rfl | rfl | rfl | rfl <;> rfl
      case qb => unfold maxLen; have := OI.out; omega
      case qc => have := OI.out; omega
      case qd => have := K5.out.size; have := HB.out; simp; omega
      intro v' w8 hown hgrow hnil
      obtain ⟨a8, cap8, rfl⟩ := own_slice hown
      have kA : Kept (fun _ => False) W5 (W5.alloc (.cells #[.int .i64 m.tr, .int .i64 m.id, .int .i64 m.pa, .string m.se, .string m.ho, .int .i64 m.st, .int .i64 m.du, .string m.no] 96)) := (Kept.refl _ _).alloc _
      have kG := grown_kept hgrow
      have O8 := Lib.hid hown
      have T8 := Lib.hid (show ∀ j u, (cellsOfS m)[j]? = some u → w8.cell? ⟨g, j, none⟩ = some u from fun j u hu => kG.cell (kA.cell (M5.out.two j u hu) (fun f => f)) (fun e => M5.out.far g e rfl))
      have N8 := Lib.hid (show ∀ j u, (cellsOfS m)[j]? = some u → w8.cell? ((⟨g, 0, none⟩ : Addr).add j) = some u from fun j u hu => by
       cases j with
       | zero => simpa [Addr.add] using T8.out 0 u hu
       | succ j => simpa [Addr.add] using T8.out (j + 1) u hu)
      have C8 := Lib.hid (own_kept (own_kept M5.out.cells kA (fun _ _ f => f)) kG (fun q hq e => own_types M5.out.cells M5.out.out (by decide) hq e))
      have m8 := Lib.hid ((M5.out.map.kept kA (fun f => f)).kept kG (fun e => own_map M5.out.out M5.out.map e))
      have K8 := Lib.hid (show Kept (fun _ => False) w w8 from (tt K5.out kA).trans kG (fun _ _ f => f) (fun q hq e => by have := own_from M5.out.out e; have := HB.out; omega))
      clear kA kG hown hgrow hnil s0 s1 s2 s3 s4 s5 s6 s7 hU LK c0 M5 K5
      go_wp2_with (at_builtin; refine wpList_append_own _ rfl _ _ 65 rfl b 132 j0 _ 3 40 Tryz.underlying65 hj0 hy0 hy1 hy2 rfl (by decide) _ _ _ rfl C8.out ⟨g, 0, none⟩ 2 2 (cellsOfS m) rfl rfl N8.out ?qa ?qb ?qc ?qd ?_)
      case qa => intro u hu; simp [cellsOfS] at hu; rcases hu with rfl | rfl | rfl | rfl | rfl | rfl <;> rfl
      case qb => unfold maxLen; have := OI.out; omega
      case qc => have := OI.out; omega
      case qd => have := K8.out.size; have := HB.out; omega
      intro v'' w9 hown hgrow hnil
      obtain ⟨a9, cap9, rfl⟩ := own_slice hown
      have kG := grown_kept hgrow
      have C9 := Lib.hid hown
      have O9 := Lib.hid (own_kept O8.out kG (fun q hq e => own_types O8.out C8.out (by decide) hq e))
      have m9 := Lib.hid (m8.out.kept kG (fun e => own_map C8.out m8.out e))
      have K9 := Lib.hid (show Kept (fun _ => False) w w9 from K8.out.trans kG (fun _ _ f => f) (fun q hq e => by have := own_from C8.out e; have := HB.out; omega))
      clear kG hown hgrow hnil
      go_wp2
      go_roundg (n - i - 1)
      case measure => have := JI.out; omega
      case rel =>
       have e := TT.out
       rw [← DS.out, takeR, LT.out, show keyS m = kk from KK.out, SN.out, show old kk = false from by rw [← HO.out]; simp [GK.out]] at e
       simp only [Bool.or_self] at e
       have l1 : (O ++ [m]).length = O.length + 1 := by simp
       have l2 : cellsS (O ++ [m]) = cellsS O ++ m.cells := by rw [cellsS_append]; simp [cellsS]
       have l3 : cellsT (O ++ [m]) = cellsT O ++ cellsOfS m := by rw [cellsT_append]; simp [cellsT]
       have l4 : 2 * (O ++ [m]).length = 2 * O.length + 2 := by rw [l1]; omega
       exact ⟨i + 1, O ++ [m], K ++ [kk], by have := JI.out; omega, by go_num, by have := OI.out; omega, K9.out, m9.out, by rw [l1, l2]; exact O9.out, by rw [l4, l3]; exact C9.out, by rw [List.append_assoc]; exact e⟩
     | true =>
      obtain ⟨dk, hdk⟩ : ∃ dk, dr (gc kk) = dk := ⟨_, rfl⟩
      have DK := Lib.hid hdk
      have DC := Lib.hid (fun w' => DD.out w' kk ⟨m, MEM.out, KK.out⟩ GK.out)
      rw [hdk] at DC
      unfold aggC at DC
      clear hdk
      cases dk with
      | false =>
       go_wp2_with (first | (go_at_call 51; refine GC.out.mono ?_; rintro e w3 ⟨rfl, k3⟩) | (go_at_call 79; refine (DC.out _).mono ?_; rintro e w4 ⟨rfl, k4⟩))
       have kq := tt k3 (tt ((Kept.refl (fun _ => False) w3).alloc _) k4)
       have M4 := M2.out.keptF kq
       have K4 := tt K2.out kq
       go_roundg (n - i - 1)
       case measure => have := JI.out; omega
       case rel =>
        have e := TT.out
        rw [← DS.out, takeR, LT.out, show keyS m = kk from KK.out, SN.out, show old kk = true from by rw [← HO.out]; simp [GK.out, DK.out], Bool.or_true] at e
        exact ⟨i + 1, O, K, by have := JI.out; omega, by go_num, by have := OI.out; omega, K4, M4.map, M4.out, M4.cells, e⟩
      | true =>
       go_upto_region 11 with (first | (go_at_call 51; refine GC.out.mono ?_; rintro e w3 ⟨rfl, k3⟩) | (go_at_call 79; refine (DC.out _).mono ?_; rintro e w4 ⟨rfl, k4⟩))
       have kq := tt k3 (tt ((Kept.refl (fun _ => False) w3).alloc _) k4)
       have M4 := Lib.hid (M2.out.keptF kq)
       have K4 := Lib.hid (tt K2.out kq)
       clear kq k3 k4 c0 LK M2 K2 GC DC
       have c0 : w4.cell? ⟨g, 0, none⟩ = some (.string kk) := by rw [← KK.out]; exact M4.out.two 0 _ rfl
       have LK := look_seen M4.out.map kk
       rw [SN.out] at LK
       unfold oneN at LK
       obtain ⟨W5, hU, mU, kU⟩ := upd_seen M4.out.map SN.out
       have M5 := Lib.hid (M4.out.seen kU mU)
       have K5 := Lib.hid (show Kept (fun _ => False) w W5 from K4.out.trans kU (fun _ _ f => f) (fun q hq e => by have := HB.out; omega))
       have s0 : W5.cell? ⟨ns, 0, none⟩ = some (.int .i64 m.tr) := M5.out.span 0 _ rfl
       have s1 : W5.cell? ⟨ns, 1, none⟩ = some (.int .i64 m.id) := M5.out.span 1 _ rfl
       have s2 : W5.cell? ⟨ns, 2, none⟩ = some (.int .i64 m.pa) := M5.out.span 2 _ rfl
       have s3 : W5.cell? ⟨ns, 3, none⟩ = some (.string m.se) := M5.out.span 3 _ rfl
       have s4 : W5.cell? ⟨ns, 4, none⟩ = some (.string m.ho) := M5.out.span 4 _ rfl
       have s5 : W5.cell? ⟨ns, 5, none⟩ = some (.int .i64 m.st) := M5.out.span 5 _ rfl
       have s6 : W5.cell? ⟨ns, 6, none⟩ = some (.int .i64 m.du) := M5.out.span 6 _ rfl
       have s7 : W5.cell? ⟨ns, 7, none⟩ = some (.string m.no) := M5.out.span 7 _ rfl
       clear mU kU
       go_wp2_with (at_builtin; refine wpList_append_own _ rfl _ _ 30 rfl b 96 i0 _ 8 88 Tryz.underlying30 hi0 hz0 hz1 hz2 rfl (by decide) _ _ _ rfl (own_kept M5.out.out ((Kept.refl (fun _ => False) W5).alloc _) (fun _ _ f => f)) ⟨W5.heap.size, 0, none⟩ 1 1 m.cells rfl rfl (World.news_of_block (heap_alloc_new W5 _)) ?qa ?qb ?qc ?qd ?_)
       case qa => intro u hu; simp [Spn.cells] at hu; rcases hu with rfl | rfl | rfl | rfl | rfl | rfl | rfl | rfl <;> rfl
       case qb => unfold maxLen; have := OI.out; omega
       case qc => have := OI.out; omega
       case qd => have := K5.out.size; have := HB.out; simp; omega
       intro v' w8 hown hgrow hnil
       obtain ⟨a8, cap8, rfl⟩ := own_slice hown
       have kA : Kept (fun _ => False) W5 (W5.alloc (.cells #[.int .i64 m.tr, .int .i64 m.id, .int .i64 m.pa, .string m.se, .string m.ho, .int .i64 m.st, .int .i64 m.du, .string m.no] 96)) := (Kept.refl _ _).alloc _
       have kG := grown_kept hgrow
       have O8 := Lib.hid hown
       have T8 := Lib.hid (show ∀ j u, (cellsOfS m)[j]? = some u → w8.cell? ⟨g, j, none⟩ = some u from fun j u hu => kG.cell (kA.cell (M5.out.two j u hu) (fun f => f)) (fun e => M5.out.far g e rfl))
       have N8 := Lib.hid (show ∀ j u, (cellsOfS m)[j]? = some u → w8.cell? ((⟨g, 0, none⟩ : Addr).add j) = some u from fun j u hu => by
        cases j with
        | zero => simpa [Addr.add] using T8.out 0 u hu
        | succ j => simpa [Addr.add] using T8.out (j + 1) u hu)
       have C8 := Lib.hid (own_kept (own_kept M5.out.cells kA (fun _ _ f => f)) kG (fun q hq e => own_types M5.out.cells M5.out.out (by decide) hq e))
       have m8 := Lib.hid ((M5.out.map.kept kA (fun f => f)).kept kG (fun e => own_map M5.out.out M5.out.map e))
       have K8 := Lib.hid (show Kept (fun _ => False) w w8 from (tt K5.out kA).trans kG (fun _ _ f => f) (fun q hq e => by have := own_from M5.out.out e; have := HB.out; omega))
       clear kA kG hown hgrow hnil s0 s1 s2 s3 s4 s5 s6 s7 hU LK c0 M5 K5
       go_wp2_with (at_builtin; refine wpList_append_own _ rfl _ _ 65 rfl b 132 j0 _ 3 40 Tryz.underlying65 hj0 hy0 hy1 hy2 rfl (by decide) _ _ _ rfl C8.out ⟨g, 0, none⟩ 2 2 (cellsOfS m) rfl rfl N8.out ?qa ?qb ?qc ?qd ?_)
       case qa => intro u hu; simp [cellsOfS] at hu; rcases hu with rfl | rfl | rfl | rfl | rfl | rfl <;> rfl
       case qb => unfold maxLen; have := OI.out; omega
       case qc => have := OI.out; omega
       case qd => have := K8.out.size; have := HB.out; omega
       intro v'' w9 hown hgrow hnil
       obtain ⟨a9, cap9, rfl⟩ := own_slice hown
       have kG := grown_kept hgrow
       have C9 := Lib.hid hown
       have O9 := Lib.hid (own_kept O8.out kG (fun q hq e => own_types O8.out C8.out (by decide) hq e))
       have m9 := Lib.hid (m8.out.kept kG (fun e => own_map C8.out m8.out e))
       have K9 := Lib.hid (show Kept (fun _ => False) w w9 from K8.out.trans kG (fun _ _ f => f) (fun q hq e => by have := own_from C8.out e; have := HB.out; omega))
       clear kG hown hgrow hnil
       go_wp2
       go_roundg (n - i - 1)
       case measure => have := JI.out; omega
       case rel =>
        have e := TT.out
        rw [← DS.out, takeR, LT.out, show keyS m = kk from KK.out, SN.out, show old kk = false from by rw [← HO.out]; simp [GK.out, DK.out]] at e
        simp only [Bool.or_self] at e
        have l1 : (O ++ [m]).length = O.length + 1 := by simp
        have l2 : cellsS (O ++ [m]) = cellsS O ++ m.cells := by rw [cellsS_append]; simp [cellsS]
        have l3 : cellsT (O ++ [m]) = cellsT O ++ cellsOfS m := by rw [cellsT_append]; simp [cellsT]
        have l4 : 2 * (O ++ [m]).length = 2 * O.length + 2 := by rw [l1]; omega
        exact ⟨i + 1, O ++ [m], K ++ [kk], by have := JI.out; omega, by go_num, by have := OI.out; omega, K9.out, m9.out, by rw [l1, l2]; exact O9.out, by rw [l4, l3]; exact C9.out, by rw [List.append_assoc]; exact e⟩
  ·have e3 : ¬ (i : Int) < (n : Int) := by omega
   go_wp2
   go_ret2
   have hin : i = n := by have := JI.out; omega
   have e : T = O := by
    have h := TT.out
    rw [hin, ← HN.out, List.drop_length] at h
    rw [← h]
    simp [takeR]
   rw [e]
   exact ⟨_, _, rfl, OO.out, OC.out, KW.out⟩
end Go.Proofs.YthknocapablpaaaGreatDoor
/- ingest.Check of any batch. -/
namespace Go.Proofs.YthknocapablpaaaGreatDoor
set_option maxRecDepth 100000
open Go.RowKit

def hostB (n : Int) : Bool := decide (0 ≤ n) && decide (n < 4)
def okI (ho fi : Int) (L : List Spn) : Bool := hostB ho && (decide (0 ≤ fi) && decide (fi ≤ 2147483647 - (L.length : Int)))
def lenI (L : List Spn) : Bool := decide (L.length ≠ 0) && decide (L.length ≤ 8)
def chkI (ho fi : Int) (L : List Spn) : Int := match okI ho fi L with
 | false => 2
 | true => match lenI L with
  | false => 3
  | true => errN (L.all chkB)
set_option maxHeartbeats 4000000 in
set_option maxRecDepth 100000 in
theorem check12 {w : World} {ho fi : Int} {v : Value} {L : List Spn} (hr : ReadsS w v L) (hl : L.length ≤ 20) (hfit : ∀ y ∈ L, y.se.size ≤ 9223372036854775807 ∧ y.ho.size ≤ 9223372036854775807 ∧ y.no.size ≤ 9223372036854775807) :
  Calls Tryz.prog 14 #[.agg #[.int .i64 ho, .int .i64 fi, v]] w fun e w' => e = .returned (.int .i64 (chkI ho fi L)) ∧ Kept (fun _ => False) w w' := by
 obtain ⟨ao, cap, rfl, h⟩ := hr
 have HR := Lib.hid h
 have FIT := Lib.hid hfit
 clear h hfit
 have tt : ∀ {a b c : World}, Kept (fun _ => False) a b → Kept (fun _ => False) b c → Kept (fun _ => False) a c := fun h k => h.trans k (fun _ _ h => h) (fun _ _ h => h)
 obtain ⟨n, hn⟩ : ∃ n, L.length = n := ⟨_, rfl⟩
 have OE : okI ho fi L = (hostB ho && (decide (0 ≤ fi) && decide (fi ≤ 2147483647 - (n : Int)))) := by unfold okI; rw [hn]
 have LE : lenI L = (decide (n ≠ 0) && decide (n ≤ 8)) := by unfold lenI; rw [hn]
 unfold chkI
 rw [hn] at hl ⊢
 rw [OE, LE]
 have HN := Lib.hid hn
 clear hn OE LE
 unfold hostB
 by_cases h0 : ho < 0
 ·rw [show (decide (0 ≤ ho) && decide (ho < 4) && (decide (0 ≤ fi) && decide (fi ≤ 2147483647 - (n : Int)))) = false by simp; omega]
  go_enter Tryz.func14, Tryz.ntmps14
  go_wp2
  go_ret
  exact ⟨rfl, (Kept.refl _ _).alloc _⟩
 by_cases h1 : 4 ≤ ho
 ·rw [show (decide (0 ≤ ho) && decide (ho < 4) && (decide (0 ≤ fi) && decide (fi ≤ 2147483647 - (n : Int)))) = false by simp; omega]
  go_enter Tryz.func14, Tryz.ntmps14
  go_wp2
  go_ret
  exact ⟨rfl, (Kept.refl _ _).alloc _⟩
 by_cases h2 : fi < 0
 ·rw [show (decide (0 ≤ ho) && decide (ho < 4) && (decide (0 ≤ fi) && decide (fi ≤ 2147483647 - (n : Int)))) = false by simp; omega]
  go_enter Tryz.func14, Tryz.ntmps14
  go_wp2
  go_ret
  exact ⟨rfl, (Kept.refl _ _).alloc _⟩
 by_cases h3 : 2147483647 - (n : Int) < fi
 ·rw [show (decide (0 ≤ ho) && decide (ho < 4) && (decide (0 ≤ fi) && decide (fi ≤ 2147483647 - (n : Int)))) = false by simp; omega]
  go_enter Tryz.func14, Tryz.ntmps14
  go_wp2
  go_ret
  exact ⟨rfl, (Kept.refl _ _).alloc _⟩
 rw [show (decide (0 ≤ ho) && decide (ho < 4) && (decide (0 ≤ fi) && decide (fi ≤ 2147483647 - (n : Int)))) = true by simp; omega]
 by_cases g0 : n = 0
 ·rw [show (decide (n ≠ 0) && decide (n ≤ 8)) = false by simp [g0]]
  have g0' : (n : Int) = 0 := by omega
  clear g0
  go_enter Tryz.func14, Tryz.ntmps14
  go_wp2
  go_ret
  exact ⟨rfl, (Kept.refl _ _).alloc _⟩
 by_cases g8 : (8 : Int) < (n : Int)
 ·rw [show (decide (n ≠ 0) && decide (n ≤ 8)) = false by simp; omega]
  have g0' : ((n : Int) == 0) = false := by simp; omega
  clear g0
  go_enter Tryz.func14, Tryz.ntmps14
  go_wp2
  go_ret
  exact ⟨rfl, (Kept.refl _ _).alloc _⟩
 rw [show (decide (n ≠ 0) && decide (n ≤ 8)) = true by simp; omega]
 have g0' : ((n : Int) == 0) = false := by simp; omega
 have g8' : decide ((8 : Int) < (n : Int)) = false := by simpa using g8
 clear g0
 obtain ⟨bb, hbb⟩ : ∃ bb, L.all chkB = bb := ⟨_, rfl⟩
 rw [hbb]
 have BB := Lib.hid hbb
 clear hbb
 go_enter Tryz.func14, Tryz.ntmps14
 go_wp2
 go_loopg [43] n (fun gh t wr => ∃ k : Nat, k + gh = n ∧ t = .int .i64 k ∧ Kept (fun _ => False) w wr ∧ ∀ j, j < k → chkB (L.getD j default) = true)
 case atStart => exact ⟨0, by omega, rfl, (Kept.refl _ _).alloc _, fun j hj => absurd hj (Nat.not_lt_zero j)⟩
 case round =>
  obtain ⟨k, hk, rfl, hK, hno⟩ := hrel
  have NO := Lib.hid hno
  have KW := Lib.hid hK
  have hk1 : k ≤ n := by omega
  have JK := Lib.hid hk
  clear hk hno hK
  by_cases hlt : k < n
  ·rcases HR.out with e0 | ⟨g, o, rfl, hc⟩
   ·have := HN.out; rw [e0] at this; simp at this; omega
   obtain ⟨m, hm⟩ : ∃ m, L[k]? = some m := ⟨_, List.getElem?_eq_getElem (by rw [HN.out]; exact hlt)⟩
   have hgd : L.getD k default = m := by rw [List.getD_eq_getElem?_getD, hm]; rfl
   obtain ⟨c0, c1', c2, c3, c4, c5, c6, c7⟩ := ReadsS.at (fun j u hu => KW.out.cell (hc j u hu) (fun f => f)) hm
   have f := FIT.out m (List.mem_of_getElem? hm)
   have C := Lib.hid (check_all m f.1 f.2.1 f.2.2)
   have GD := Lib.hid hgd
   have MEM := Lib.hid (List.mem_of_getElem? hm)
   have i1 : (0 : Int) ≤ (k : Int) := by omega
   have i2 : (k : Int) < (n : Int) := by omega
   clear hc hm f hgd
   unfold aggS at C
   cases hB : chkB m with
   | false =>
    rw [hB] at C
    have b0 : bb = false := by
     rw [← BB.out, List.all_eq_false]
     exact ⟨m, MEM.out, by rw [hB]; simp⟩
    go_wp2_with (go_at_call 54; refine (C.out _).mono ?_; rintro e w3 ⟨rfl, k3⟩)
    go_ret
    exact ⟨by rw [b0]; rfl, tt KW.out (tt ((Kept.refl _ _).alloc _) k3)⟩
   | true =>
    rw [hB] at C
    go_wp2_with (go_at_call 54; refine (C.out _).mono ?_; rintro e w3 ⟨rfl, k3⟩)
    go_roundg (n - k - 1)
    case measure => have := JK.out; omega
    case rel =>
     refine ⟨k + 1, by omega, by go_num, tt KW.out (tt ((Kept.refl _ _).alloc _) k3), fun j hj => ?_⟩
     by_cases e : j = k
     ·subst e; rw [GD.out]; exact hB
     ·exact NO.out j (by omega)
  ·have e3 : ¬ (k : Int) < (n : Int) := by omega
   have b1 : bb = true := by
    rw [← BB.out, List.all_eq_true]
    intro m hm
    obtain ⟨j, hj⟩ := List.getElem?_of_mem hm
    have hjn := (List.getElem?_eq_some_iff.1 hj).1
    rw [HN.out] at hjn
    have := NO.out j (by omega)
    rw [List.getD_eq_getElem?_getD, hj] at this
    exact this
   subst b1
   go_wp2
   go_ret
   exact ⟨rfl, KW.out⟩

theorem chkI_all {ho fi : Int} {L : List Spn} (h : chkI ho fi L = 0) : ∀ m ∈ L, chkB m = true := by
 unfold chkI at h
 cases h1 : okI ho fi L with
 | false => rw [h1] at h; cases h
 | true =>
  rw [h1] at h
  cases h2 : lenI L with
  | false => rw [h2] at h; cases h
  | true =>
   rw [h2] at h
   cases h3 : L.all chkB with
   | false => rw [h3] at h; cases h
   | true => exact List.all_eq_true.1 h3
theorem chkI_okI {ho fi : Int} {L : List Spn} (h : chkI ho fi L = 0) : okI ho fi L = true ∧ lenI L = true := by
 unfold chkI at h
 cases h1 : okI ho fi L with
 | false => rw [h1] at h; cases h
 | true =>
  rw [h1] at h
  cases h2 : lenI L with
  | false => rw [h2] at h; cases h
  | true => exact ⟨rfl, rfl⟩
theorem chkI_len {ho fi : Int} {L : List Spn} (h : chkI ho fi L = 0) : L.length ≤ 8 := by
 have := (chkI_okI h).2
 unfold lenI at this
 simp at this
 exact this.2
theorem chkI_room {ho fi : Int} {L : List Spn} (h : chkI ho fi L = 0) : 0 ≤ fi ∧ fi + (L.length : Int) ≤ 2147483647 := by
 have := (chkI_okI h).1
 unfold okI at this
 simp only [Bool.and_eq_true, decide_eq_true_eq] at this
 omega
end Go.Proofs.YthknocapablpaaaGreatDoor
