/- A part of the proof. -/
import Derived.Test.YthkcicilmhpfjaaGreatDoorProg
import GoSem.ClaimFn
import Derived.KernelRfl
import Derived.Test.YthkcicilmhpfjaaGreatDoorIn6

/- What each function leads to, as a trie; the closures out of it. -/
namespace Go.Eng

/-- The closure, by a trie of what was seen. -/
noncomputable def clo (T : Tr (List Nat)) (N : Nat) : Nat → List Nat → Tr Bool → List Nat → List Nat
  | 0, _, _, seen => seen.reverse
  | _ + 1, [], _, seen => seen.reverse
  | n + 1, f :: todo, sn, seen => match sn.get f with
    | some _ => clo T N n todo sn seen
    | none => Tr.setK deep sn f (some true) fun sn' => clo T N n (((bif Nat.blt f N then T.get f else none).getD []) ++ todo) sn' (f :: seen)

noncomputable def nlEq : List Nat → List Nat → Bool
  | [], [] => true
  | a :: l, b :: k => Nat.beq a b && nlEq l k
  | _, _ => false
theorem nlEq_eq : ∀ {l k : List Nat}, nlEq l k = true → l = k
  | [], [], _ => rfl
  | a :: l, b :: k, h => by
    simp only [nlEq, Bool.and_eq_true] at h
    rw [Nat.eq_of_beq_eq_true h.1, nlEq_eq h.2]
noncomputable def leadsAt (P : Program) (T : Tr (List Nat)) : Nat → List Func → Bool
  | _, [] => true
  | i, fn :: l => nlEq ((T.get i).getD []) (P.leadsTo fn) && leadsAt P T (i + 1) l
theorem leadsAt_ok {P : Program} {T : Tr (List Nat)} : ∀ {l : List Func} {i j : Nat} {fn : Func}, leadsAt P T i l = true → l[j]? = some fn → (T.get (i + j)).getD [] = P.leadsTo fn
  | fn' :: l, i, 0, fn, h, e => by
    simp only [leadsAt, Bool.and_eq_true] at h
    cases e
    exact nlEq_eq h.1
  | fn' :: l, i, j + 1, fn, h, e => by
    simp only [leadsAt, Bool.and_eq_true] at h
    have := leadsAt_ok (j := j) h.2 (by simpa using e)
    rwa [show i + 1 + j = i + (j + 1) by omega] at this
theorem clo_eq {P : Program} {T : Tr (List Nat)} {N : Nat} (hN : P.funcs.size = N) (hb : N ≤ 1000000) (hl : leadsAt P T 0 P.funcs.toList = true) : ∀ {n : Nat} {todo : List Nat} {sn : Tr Bool} {seen : List Nat}, (∀ f, (sn.get f).isSome = true ↔ f ∈ seen) → (∀ f ∈ todo, f ≤ 1000000) → (∀ f x, T.get f = some x → ∀ y ∈ x, y ≤ 1000000) → P.closureVia n todo seen = clo T N n todo sn seen
  | 0, _, _, _, _, _, _ => by rw [Program.closureVia, clo]
  | n + 1, [], _, _, _, _, _ => by rw [Program.closureVia, clo]; simp
  | n + 1, f :: todo, sn, seen, h, ht, hT => by
    have hf : f ≤ 1000000 := ht f (List.mem_cons_self ..)
    have ht' : ∀ g ∈ todo, g ≤ 1000000 := fun g hg => ht g (List.mem_cons_of_mem _ hg)
    rw [Program.closureVia, clo]
    cases e : sn.get f with
    | some b =>
      have : seen.contains f = true := by simpa using (h f).1 (by rw [e]; rfl)
      rw [if_pos this]
      exact clo_eq hN hb hl h ht' hT
    | none =>
      have : ¬ seen.contains f = true := by
        intro q
        have := (h f).2 (by simpa using q)
        rw [e] at this; cases this
      rw [if_neg this]
      simp only [setK_eq]
      have hx : ((P.funcs[f]?).elim [] P.leadsTo) = ((bif Nat.blt f N then T.get f else none).getD []) := by
        by_cases q : f < N
        · have q' : Nat.blt f N = true := by simpa [Nat.blt_eq] using q
          rw [q', cond_true]
          have hs : f < P.funcs.size := by omega
          have e2 : P.funcs[f]? = some P.funcs[f] := Array.getElem?_eq_getElem hs
          have e3 : P.funcs.toList[f]? = some P.funcs[f] := by rw [Array.getElem?_toList]; exact e2
          have := leadsAt_ok (i := 0) (j := f) hl e3
          rw [Nat.zero_add] at this
          rw [e2]
          exact this.symm
        · have q' : Nat.blt f N = false := by
            cases z : Nat.blt f N with
            | false => rfl
            | true => exact absurd (by simpa [Nat.blt_eq] using z) q
          rw [q', cond_false, Array.getElem?_eq_none (by omega)]
          rfl
      rw [hx]
      refine clo_eq hN hb hl (fun g => ?_) (fun g hg => ?_) hT
      · by_cases q : f = g
        · subst q
          rw [Tr.get_set_same deep sn f _ (Nat.lt_of_le_of_lt hf (by decide +kernel))]
          simp
        · rw [Tr.get_set_other deep sn f g _ q, h g]
          constructor
          · exact List.mem_cons_of_mem _
          · intro z
            rcases List.mem_cons.1 z with z | z
            · exact absurd z.symm q
            · exact z
      · rcases List.mem_append.1 hg with z | z
        · cases q : (bif Nat.blt f N then T.get f else none) with
          | none => rw [q] at z; cases z
          | some x =>
            rw [q] at z
            cases w : Nat.blt f N with
            | true => rw [w, cond_true] at q; exact hT f x q g z
            | false => rw [w, cond_false] at q; cases q
        · exact ht' g z

noncomputable def smallT : Tr (List Nat) → Bool
  | .nil => true
  | .node v l r => (match v with | some x => x.all fun y => Nat.ble y 1000000 | none => true) && smallT l && smallT r
theorem smallT_ok : ∀ {T : Tr (List Nat)}, smallT T = true → ∀ f x, T.get f = some x → ∀ y ∈ x, y ≤ 1000000
  | .nil, _, f, x, h => by rw [Tr.get_nil] at h; cases h
  | .node v l r, hs, f, x, h => by
    simp only [smallT, Bool.and_eq_true] at hs
    match f with
    | 0 =>
      rw [Tr.get_zero] at h
      subst h
      intro y hy
      have := List.all_eq_true.1 hs.1.1 y hy
      exact Nat.le_of_ble_eq_true this
    | f + 1 =>
      by_cases q : f % 2 = 0
      · rw [Tr.get_even v l r f q] at h; exact smallT_ok hs.1.2 _ _ h
      · rw [Tr.get_odd v l r f (by omega)] at h; exact smallT_ok hs.2 _ _ h
end Go.Eng
namespace Go.Proofs.YthkcicilmhpfjaaGreatDoor
open Go.Eng

noncomputable def leadsTr : Tr (List Nat) := (.node none (.node none (.node (some [9, 10, 11, 12, 10]) (.node (some [52, 53, 54, 55, 56, 57, 58, 59, 60, 61, 62, 53]) (.node (some [76, 80, 79, 78, 77]) (.node (some [16, 110,
  110, 16, 111, 112]) (.node (some [65, 64]) (.node (some [107, 224]) (.node (some [360]) N N) (.node (some [450]) N N)) (.node (some [108, 286, 117]) (.node (some [137, 408, 407,
  411, 410]) N N) (.node (some [492, 492]) N N))) (.node (some [81, 174, 175]) (.node (some [252]) (.node (some [384]) N N) (.node (some [328, 128, 121, 473]) N N)) (.node (some
  [326, 72]) (.node (some [419, 438, 433]) N N) (.node (some [509]) N N)))) (.node (some [123, 127]) (.node (some [151, 152, 153]) (.node (some [219, 245, 246]) (.node (some [281,
  84]) N N) N) (.node (some [306]) (.node (some [336]) N N) (.node (some [464, 464, 464]) N N))) (.node (some [204, 144]) (.node none (.node (some [213, 397]) N N) (.node (some
  [478, 479]) N N)) (.node (some [346, 244]) (.node (some [448]) N N) N)))) (.node (some [89, 80, 99, 83, 83, 96, 100, 98]) (.node (some [123, 31]) (.node (some [143, 144, 116])
  (.node (some [57, 230, 231, 232, 233, 234, 235, 236, 237, 238, 239]) (.node (some [363, 364]) (.node (some [526, 526, 526]) N N) N) (.node (some [453, 454, 455, 456]) N N))
  (.node (some [156]) N (.node (some [497, 260, 498]) N N))) (.node (some [188, 128, 128, 187, 186, 191, 192, 193]) (.node (some [261, 262, 258]) (.node (some [393]) N N) (.node
  (some [438, 422, 167, 421, 433, 422, 165, 421]) N N)) (.node (some [335, 334]) N N))) (.node (some [56, 133, 122, 134, 135, 135]) (.node (some [163, 85, 164, 166, 165, 166, 167])
  (.node (some [247]) (.node (some [376, 377, 378, 379]) N N) (.node (some [472]) N N)) (.node none (.node (some [330]) N N) (.node (some [315]) N N))) (.node (some [214, 215])
  (.node none (.node (some [402, 403]) N N) N) N)))) (.node (some [12, 15, 71, 19]) (.node (some [76, 84, 85, 86, 87, 88]) (.node (some [51, 120, 36, 121, 36, 38, 44, 122, 122, 46,
  49, 38]) (.node (some [62, 65, 63, 55, 55, 66, 65, 63, 58, 38]) (.node none (.node none (.node (some [524, 525]) N N) N) (.node (some [385, 385]) N N)) (.node (some [292]) N N))
  (.node (some [151, 184, 185, 151]) (.node (some [128, 188]) (.node (some [390, 391]) N N) (.node (some [128, 188]) N N)) (.node (some [329, 330]) (.node (some [251, 265]) N N)
  (.node (some [422, 171]) N N)))) (.node (some [26, 25]) (.node none N (.node none (.node (some [340]) N N) (.node (some [502]) N N))) (.node (some [207, 208, 207, 209, 209, 208,
  210]) (.node (some [93, 281, 84]) (.node (some [400]) N N) (.node (some [481, 482, 483, 480]) N N)) (.node (some [328]) N (.node (some [464, 464]) N N))))) (.node (some [107,
  108]) (.node (some [42, 17]) (.node (some [107]) (.node (some [26, 242]) (.node (some [368, 369, 369, 370, 369, 370, 371]) N N) N) (.node (some [274]) (.node (some [241, 228]) N
  N) (.node (some [499, 499]) N N))) (.node (some [200]) (.node (some [261, 256, 276, 258]) (.node (some [395, 394]) N N) (.node (some [422, 187, 384, 223]) N N)) (.node (some
  [343]) N (.node (some [514, 515]) N N)))) (.node (some [56, 136]) (.node (some [170, 165, 167, 172, 171, 106]) (.node none (.node (some [195, 132]) N N) N) (.node (some [72, 145,
  161, 159, 323, 160, 159, 162]) (.node (some [128, 127, 188, 108, 426, 427, 428, 429, 430, 431, 432, 433, 434, 432, 435]) N N) (.node (some [419, 350, 349, 507]) N N))) (.node
  none (.node (some [261]) (.node (some [406, 406]) N N) N) (.node none (.node (some [171]) N N) (.node (some [521]) N N))))))) (.node (some [28, 29, 30, 31, 32, 33, 30, 32, 29])
  (.node none (.node (some [82, 80]) (.node (some [30, 119]) (.node (some [56, 57, 141, 142, 56]) (.node none (.node (some [108]) N N) (.node (some [324]) N N)) (.node (some [165,
  167, 166, 171]) (.node (some [412, 413]) N N) (.node (some [494, 494, 494]) N N))) (.node (some [93, 90, 179, 90, 179, 90, 179]) (.node (some [253]) (.node (some [385, 385, 385,
  385, 387, 386, 388, 178]) N N) (.node (some [419, 219, 164, 438, 422, 165, 421, 423, 438, 432]) N N)) (.node (some [327]) N (.node (some [432, 165]) N N)))) (.node (some [123,
  128, 75, 25]) (.node (some [155, 90, 156, 157]) (.node none (.node (some [255, 254]) N N) (.node (some [315, 315]) N N)) (.node (some [307]) (.node (some [338]) N N) (.node (some
  [464, 464]) N N))) (.node (some [205, 206]) (.node (some [176, 278, 164, 279]) (.node (some [398]) (.node (some [498, 498]) N N) N) N) (.node (some [329]) N N)))) (.node (some
  [102, 80, 103, 80, 93, 104, 80, 105, 106, 88]) (.node (some [123, 33]) (.node (some [26, 25]) (.node none (.node (some [365]) N N) N) (.node (some [302, 303]) (.node (some [240])
  N N) (.node (some [324, 222, 324, 222]) N N))) (.node (some [151, 197]) (.node (some [269, 269]) (.node (some [324]) N N) (.node (some [474, 350, 475, 120]) N N)) (.node (some
  [339, 334]) N (.node (some [253, 512, 513]) N N)))) (.node (some [56]) (.node (some [76]) (.node none (.node (some [380]) N N) (.node (some [406, 406]) N N)) (.node none (.node
  (some [127]) N N) (.node (some [506]) N N))) (.node (some [220, 216, 217]) (.node (some [283, 132, 284, 197, 285]) N N) (.node (some [355, 84, 356]) (.node (some [165]) N N)
  (.node (some [519, 505, 505]) N N)))))) (.node none (.node (some [89, 78, 94, 80, 91, 92]) (.node (some [120]) (.node none (.node (some [227, 228, 229]) (.node (some [107])
  (.node (some [516, 516, 516, 516, 516, 516]) N N) N) (.node (some [222, 324, 222, 158]) N N)) (.node (some [294, 117, 118]) (.node (some [116]) N N) (.node (some [497]) N N)))
  (.node (some [163, 186]) (.node (some [107, 256, 257, 258, 259]) N N) (.node (some [331, 57, 332, 42, 36, 235, 125, 50, 42]) (.node (some [358, 358]) N N) (.node (some [315, 511,
  511]) N N)))) (.node (some [62, 129, 55, 55, 59, 55, 55, 59, 55, 55, 58, 38, 59, 57, 130, 129, 61, 60]) (.node (some [158, 160, 161, 160, 159, 162]) (.node (some [156]) N (.node
  (some [471, 471, 471]) N N)) (.node (some [318, 253]) (.node (some [342]) N N) N)) (.node (some [213, 212]) (.node none (.node (some [315]) N N) (.node (some [422, 486, 485]) N
  N)) (.node (some [210, 352]) N (.node (some [518, 518, 518]) N N))))) (.node (some [68, 11, 30, 31, 31, 32, 32, 33, 30, 30, 109, 109]) (.node (some [122]) (.node (some [147, 148,
  149]) (.node (some [225, 243]) (.node (some [373, 374]) N N) (.node (some [458, 459, 460, 461, 462, 463, 464, 465, 466, 397, 397]) N N)) (.node none (.node (some [416, 334]) N N)
  (.node (some [500, 500, 500, 501]) N N))) (.node none (.node (some [277]) N (.node (some [409]) N N)) (.node (some [344, 334]) (.node (some [447, 409, 446]) N N) N))) (.node
  (some [56, 131]) (.node none (.node (some [249, 250]) N (.node (some [409]) N N)) (.node (some [325]) (.node (some [419]) N N) (.node (some [508]) N N))) (.node (some [220, 216,
  217, 217, 222, 223]) (.node none (.node (some [315, 315, 315, 315]) N N) (.node (some [488, 489, 490, 491]) N N)) (.node none N (.node (some [523, 523, 523]) N N)))))))) (.node
  (some [1]) (.node (some [13, 14, 15, 16, 17, 18, 19, 20, 21, 22, 23, 24, 25, 26, 27, 25, 14]) (.node (some [63, 64, 65, 66, 67]) (.node (some [76, 78, 81]) (.node (some [113,
  113, 114, 16, 16, 115, 116, 117, 118]) (.node (some [56, 140, 56, 55, 55, 140]) (.node (some [107]) N (.node (some [451, 164]) N N)) (.node (some [166, 187, 287, 290]) N (.node
  (some [493, 493, 493]) N N))) (.node (some [176, 154, 177, 178, 164, 165, 167]) (.node (some [161]) (.node (some [385, 385, 385, 386, 387, 278, 388]) N N) (.node (some [417]) N
  N)) N)) (.node (some [123]) (.node (some [154]) (.node (some [211]) (.node (some [355, 161, 375, 161, 160, 161, 160]) N N) (.node (some [467, 468, 467, 469, 468, 470]) N N))
  (.node (some [296]) (.node (some [419, 420, 422, 167, 421]) N N) (.node (some [492, 492]) N N))) (.node none (.node (some [128, 188]) N N) (.node none (.node (some [369, 370]) N
  N) (.node (some [516, 516, 516, 516, 516, 516, 517]) N N))))) (.node (some [76, 20, 80, 96, 101]) (.node (some [123, 32]) (.node (some [145, 113, 113]) (.node (some [240, 241])
  (.node none (.node (some [510, 161, 161]) N N) N) N) (.node none N (.node (some [497, 260, 498]) N N))) (.node (some [80, 105, 108, 194, 195, 196]) (.node (some [251, 263, 264,
  265, 266, 268, 267]) N N) (.node (some [337, 334]) (.node (some [441, 443, 442, 444]) N N) N))) (.node none (.node (some [80, 79, 168]) (.node none (.node (some [161, 161]) N N)
  (.node (some [409]) N N)) (.node none (.node (some [27]) N N) (.node (some [504, 504, 505, 505]) N N))) (.node (some [216, 217, 217, 218, 219, 160]) (.node (some [132]) (.node
  (some [404, 404, 404, 405]) N N) (.node (some [487]) N N)) (.node (some [354, 353]) (.node (some [196]) N N) N))))) (.node (some [72]) (.node (some [89, 90, 80, 91, 92, 93])
  (.node (some [123, 124, 125, 11, 126]) (.node (some [26, 25]) (.node none (.node (some [362]) N N) N) (.node (some [261, 293, 258]) N (.node (some [496]) N N))) (.node (some [90,
  179, 90, 168]) (.node (some [255, 254]) N (.node (some [438]) N N)) (.node (some [329]) (.node (some [439]) N N) (.node (some [324, 510]) N N)))) (.node (some [9]) (.node none
  (.node (some [90]) N (.node (some [405]) N N)) (.node (some [309, 310, 311, 312, 313, 314, 315, 316, 317, 212, 212]) (.node (some [419, 422, 196, 421, 424]) N N) N)) (.node (some
  [204, 144, 115, 211]) (.node (some [181, 182]) N (.node (some [187, 484]) N N)) (.node (some [225, 349, 350, 351]) N (.node (some [501]) N N))))) (.node none (.node none (.node
  (some [82, 146]) (.node (some [59, 55]) (.node (some [372]) N N) N) (.node (some [223, 245]) (.node (some [414, 334]) N N) (.node (some [402, 403]) N N))) (.node (some [200, 202,
  201]) (.node (some [260]) (.node (some [273]) N N) N) (.node (some [327]) (.node (some [265]) N N) N))) (.node (some [57, 137]) (.node (some [96, 104]) (.node (some [248, 169])
  (.node (some [382, 383]) N N) N) (.node (some [207, 324]) (.node (some [436]) N N) N)) (.node (some [128]) (.node (some [200]) (.node (some [315, 315]) N N) N) (.node (some
  [359]) N (.node (some [522, 522, 522]) N N))))))) (.node (some [34, 35, 37, 36, 38, 39, 40, 41, 42, 43, 44, 45, 46, 47, 48, 49, 50, 51, 49, 46, 35]) (.node (some [68, 69, 11, 11,
  11, 69, 11, 70]) (.node (some [82, 83]) (.node (some [9]) (.node (some [56, 142]) (.node (some [225, 226]) (.node (some [361, 27]) N N) (.node (some [222]) N N)) (.node (some
  [207, 291, 260]) N (.node (some [495, 495, 495]) N N))) (.node (some [180, 181, 181, 182, 181, 182, 183]) (.node none (.node (some [389]) (.node (some [265, 409, 446]) N N) N)
  (.node (some [128]) N N)) (.node (some [328]) N (.node (some [167]) N N)))) (.node none (.node none (.node (some [163]) N (.node (some [213]) N N)) (.node (some [308, 72, 203,
  203]) (.node (some [419, 420, 423]) N N) (.node (some [464, 464, 464, 464]) N N))) (.node (some [113, 113, 203, 203]) (.node (some [161, 161, 161, 161, 280, 160]) (.node (some
  [399]) N N) (.node (some [196]) N N)) (.node (some [347, 348]) (.node (some [449]) N N) N)))) (.node none (.node (some [123]) (.node none (.node none (.node (some [366, 367]) N
  N) (.node (some [324, 457, 251, 265]) N N)) (.node (some [304]) N (.node (some [464]) N N))) (.node (some [172, 187, 198, 199]) (.node (some [270, 271, 161, 159, 272, 273, 159,
  160, 161, 159, 162, 162, 162, 273, 275, 274, 274]) (.node (some [222]) N N) (.node (some [291, 260]) N N)) (.node (some [341, 334]) (.node (some [445]) N N) N))) (.node (some
  [56]) (.node (some [169]) (.node (some [151, 99, 184]) (.node (some [381, 381, 381]) N N) N) (.node (some [161]) (.node (some [327, 128, 75, 242, 418]) N N) (.node (some [349,
  473]) N N))) (.node (some [123, 124, 20, 221, 21, 22, 23, 24]) (.node (some [108, 286, 196]) (.node (some [315, 315, 315]) N N) N) (.node (some [357]) (.node (some [167]) N N)
  (.node (some [128, 127, 520, 196, 165, 167, 171]) N N)))))) (.node (some [73, 19, 19, 15, 18, 20, 18, 20, 21, 17, 74, 22, 23, 20, 24, 27, 75, 19, 25, 16]) (.node (some [89, 78,
  95, 96, 97, 98]) (.node (some [123, 30]) (.node (some [16, 111]) (.node (some [48, 46, 47, 49]) (.node none (.node (some [464]) N N) N) (.node (some [452]) N N)) (.node (some
  [295, 296, 296, 273, 297, 298, 297, 300, 299, 265, 301]) (.node (some [145, 324, 323, 222]) N N) (.node (some [497]) N N))) (.node (some [187, 188, 189, 177, 190, 177]) (.node
  (some [260]) (.node (some [392]) N N) (.node (some [260]) N N)) (.node (some [225, 333, 225]) (.node (some [440, 356]) N N) (.node (some [200]) N N)))) (.node (some [56, 131,
  132]) (.node (some [80, 79, 83]) (.node (some [151]) (.node (some [151, 161, 161, 161, 160, 280]) N N) N) (.node (some [319, 320, 321, 322]) (.node (some [328, 128, 425]) N N)
  (.node (some [503]) N N))) (.node none (.node (some [282]) (.node (some [401, 401]) N N) N) (.node (some [72, 210, 352]) N N)))) (.node (some [110, 16, 111]) (.node (some [123,
  124, 27]) (.node (some [80, 150]) (.node (some [57, 244, 130]) (.node (some [355]) N N) N) (.node (some [305]) (.node (some [327, 418]) N N) N)) (.node (some [203, 203]) (.node
  (some [115]) (.node (some [396]) N N) (.node (some [476, 477]) N N)) (.node (some [345, 334]) N N))) (.node (some [51, 138, 139]) (.node (some [81, 173]) (.node (some [251])
  (.node (some [207, 291, 260]) N N) (.node (some [415]) N N)) (.node (some [324]) (.node (some [419, 437]) N N) N)) (.node (some [216, 217, 217, 218]) (.node (some [287, 288, 289,
  154]) N N) N)))))))
theorem leads_ok : leadsAt Tryz.prog leadsTr 0 Tryz.prog.funcs.toList = true := by decide +kernel
theorem leads_small : smallT leadsTr = true := by decide +kernel
theorem funcs_size : Tryz.prog.funcs.size = 562 := by kernel_rfl
theorem fuel_is : (1 + (Tryz.prog.funcs.toList.map fun g => (Tryz.prog.leadsTo g).length + 1).sum) = 1744 := by kernel_rfl
theorem closure_is {f : Nat} (hf : f ≤ 1000000) {L : List Nat} (h : nlEq (clo leadsTr 562 1744 [f] .nil []) L = true) : Tryz.prog.closure f = L := by
  unfold Program.closure
  rw [fuel_is, clo_eq (sn := .nil) funcs_size (by decide) leads_ok (fun g => by rw [Tr.get_nil]; simp) (fun g hg => by rw [List.mem_singleton.1 hg]; exact hf) (smallT_ok leads_small)]
  exact nlEq_eq h
noncomputable def clo3 : List Nat := [3, 9, 10, 68, 26, 25, 102, 187, 261, 107, 200, 188, 189, 177, 176, 128, 278, 151, 247, 161, 253, 160, 280, 164, 255, 360, 441, 443, 442, 444, 254, 279, 376, 196, 293, 258, 361,
  27, 108, 202, 304, 201, 302, 396, 303, 213, 318, 397, 458, 464, 492, 459, 499, 460, 402, 403, 461, 500, 501, 518, 462, 463, 465, 466, 377, 165, 256, 257, 259, 378, 167, 262, 379,
  171, 276, 190, 287, 384, 451, 288, 385, 324, 386, 222, 387, 388, 289, 178, 154, 99, 184, 132, 185, 283, 195, 292, 284, 382, 383, 450, 495, 197, 294, 392, 117, 212, 309, 315, 406,
  310, 401, 311, 312, 404, 405, 471, 313, 314, 316, 317, 118, 285, 80, 103, 186, 286, 207, 306, 399, 291, 390, 452, 496, 516, 517, 391, 453, 497, 454, 455, 260, 362, 445, 488, 489,
  512, 513, 490, 491, 514, 515, 524, 525, 498, 456, 191, 192, 166, 290, 389, 158, 251, 193, 93, 104, 105, 194, 106, 172, 198, 295, 393, 296, 273, 297, 298, 300, 299, 395, 394, 457,
  265, 365, 447, 409, 446, 301, 199, 156, 248, 354, 353, 169, 269, 373, 374, 88, 79, 152, 153, 168, 263, 363, 364, 264, 266, 366, 367, 448, 493, 268, 372, 267, 368, 369, 370, 449,
  494, 371, 69, 11, 12, 72, 145, 113, 205, 206, 305, 398, 15, 76, 82, 146, 163, 78, 150, 77, 147, 148, 90, 149, 71, 143, 219, 159, 252, 359, 323, 162, 245, 210, 308, 203, 274, 352,
  246, 144, 211, 116, 204, 223, 326, 115, 208, 209, 307, 400, 467, 502, 468, 469, 470, 503, 19, 84, 85, 86, 83, 87, 70, 16, 81, 155, 157, 249, 355, 356, 439, 250, 357, 358, 440,
  487, 111]
set_option maxRecDepth 100000 in
theorem clo3_is : Tryz.prog.closure 3 = clo3 := closure_is (by decide) (by decide +kernel)
noncomputable def clo4 : List Nat := [4, 13, 14, 73, 26, 25, 102, 187, 261, 107, 200, 188, 189, 177, 176, 128, 278, 151, 247, 161, 253, 160, 280, 164, 255, 360, 441, 443, 442, 444, 254, 279, 376, 196, 293, 258, 361,
  27, 108, 202, 304, 201, 302, 396, 303, 213, 318, 397, 458, 464, 492, 459, 499, 460, 402, 403, 461, 500, 501, 518, 462, 463, 465, 466, 377, 165, 256, 257, 259, 378, 167, 262, 379,
  171, 276, 190, 287, 384, 451, 288, 385, 324, 386, 222, 387, 388, 289, 178, 154, 99, 184, 132, 185, 283, 195, 292, 284, 382, 383, 450, 495, 197, 294, 392, 117, 212, 309, 315, 406,
  310, 401, 311, 312, 404, 405, 471, 313, 314, 316, 317, 118, 285, 80, 103, 186, 286, 207, 306, 399, 291, 390, 452, 496, 516, 517, 391, 453, 497, 454, 455, 260, 362, 445, 488, 489,
  512, 513, 490, 491, 514, 515, 524, 525, 498, 456, 191, 192, 166, 290, 389, 158, 251, 193, 93, 104, 105, 194, 106, 172, 198, 295, 393, 296, 273, 297, 298, 300, 299, 395, 394, 457,
  265, 365, 447, 409, 446, 301, 199, 156, 248, 354, 353, 169, 269, 373, 374, 88, 79, 152, 153, 168, 263, 363, 364, 264, 266, 366, 367, 448, 493, 268, 372, 267, 368, 369, 370, 449,
  494, 371, 19, 76, 82, 146, 163, 84, 85, 159, 252, 359, 162, 86, 83, 87, 15, 78, 150, 77, 147, 148, 90, 149, 18, 20, 89, 91, 170, 270, 355, 271, 281, 380, 272, 375, 275, 274, 92,
  96, 21, 94, 81, 155, 157, 249, 356, 439, 250, 357, 358, 440, 487, 173, 277, 17, 74, 22, 95, 174, 115, 208, 209, 307, 400, 467, 502, 468, 469, 470, 503, 210, 308, 72, 145, 113,
  205, 206, 305, 398, 203, 175, 97, 179, 98, 180, 181, 182, 282, 381, 183, 23, 100, 24, 101, 75, 16]
set_option maxRecDepth 100000 in
theorem clo4_is : Tryz.prog.closure 4 = clo4 := closure_is (by decide) (by decide +kernel)
noncomputable def clo5 : List Nat := [5, 28, 29, 68, 26, 25, 102, 187, 261, 107, 200, 188, 189, 177, 176, 128, 278, 151, 247, 161, 253, 160, 280, 164, 255, 360, 441, 443, 442, 444, 254, 279, 376, 196, 293, 258, 361,
  27, 108, 202, 304, 201, 302, 396, 303, 213, 318, 397, 458, 464, 492, 459, 499, 460, 402, 403, 461, 500, 501, 518, 462, 463, 465, 466, 377, 165, 256, 257, 259, 378, 167, 262, 379,
  171, 276, 190, 287, 384, 451, 288, 385, 324, 386, 222, 387, 388, 289, 178, 154, 99, 184, 132, 185, 283, 195, 292, 284, 382, 383, 450, 495, 197, 294, 392, 117, 212, 309, 315, 406,
  310, 401, 311, 312, 404, 405, 471, 313, 314, 316, 317, 118, 285, 80, 103, 186, 286, 207, 306, 399, 291, 390, 452, 496, 516, 517, 391, 453, 497, 454, 455, 260, 362, 445, 488, 489,
  512, 513, 490, 491, 514, 515, 524, 525, 498, 456, 191, 192, 166, 290, 389, 158, 251, 193, 93, 104, 105, 194, 106, 172, 198, 295, 393, 296, 273, 297, 298, 300, 299, 395, 394, 457,
  265, 365, 447, 409, 446, 301, 199, 156, 248, 354, 353, 169, 269, 373, 374, 88, 79, 152, 153, 168, 263, 363, 364, 264, 266, 366, 367, 448, 493, 268, 372, 267, 368, 369, 370, 449,
  494, 371, 11, 12, 72, 145, 113, 205, 206, 305, 398, 15, 76, 82, 146, 163, 78, 150, 77, 147, 148, 90, 149, 71, 143, 219, 159, 252, 359, 323, 162, 245, 210, 308, 203, 274, 352,
  246, 144, 211, 116, 204, 223, 326, 115, 208, 209, 307, 400, 467, 502, 468, 469, 470, 503, 19, 84, 85, 86, 83, 87, 30, 110, 16, 81, 155, 157, 249, 355, 356, 439, 250, 357, 358,
  440, 487, 111, 31, 112, 32, 114, 33, 119, 214, 319, 137, 408, 407, 472, 504, 505, 519, 526, 411, 410, 320, 321, 412, 413, 322, 215, 109]
set_option maxRecDepth 100000 in
theorem clo5_is : Tryz.prog.closure 5 = clo5 := closure_is (by decide) (by decide +kernel)
noncomputable def clo6 : List Nat := [6, 34, 9, 35, 51, 26, 25, 102, 187, 261, 107, 200, 188, 189, 177, 176, 128, 278, 151, 247, 161, 253, 160, 280, 164, 255, 360, 441, 443, 442, 444, 254, 279, 376, 196, 293, 258,
  361, 27, 108, 202, 304, 201, 302, 396, 303, 213, 318, 397, 458, 464, 492, 459, 499, 460, 402, 403, 461, 500, 501, 518, 462, 463, 465, 466, 377, 165, 256, 257, 259, 378, 167, 262,
  379, 171, 276, 190, 287, 384, 451, 288, 385, 324, 386, 222, 387, 388, 289, 178, 154, 99, 184, 132, 185, 283, 195, 292, 284, 382, 383, 450, 495, 197, 294, 392, 117, 212, 309, 315,
  406, 310, 401, 311, 312, 404, 405, 471, 313, 314, 316, 317, 118, 285, 80, 103, 186, 286, 207, 306, 399, 291, 390, 452, 496, 516, 517, 391, 453, 497, 454, 455, 260, 362, 445, 488,
  489, 512, 513, 490, 491, 514, 515, 524, 525, 498, 456, 191, 192, 166, 290, 389, 158, 251, 193, 93, 104, 105, 194, 106, 172, 198, 295, 393, 296, 273, 297, 298, 300, 299, 395, 394,
  457, 265, 365, 447, 409, 446, 301, 199, 156, 248, 354, 353, 169, 269, 373, 374, 88, 79, 152, 153, 168, 263, 363, 364, 264, 266, 366, 367, 448, 493, 268, 372, 267, 368, 369, 370,
  449, 494, 371, 120, 216, 217, 218, 219, 72, 145, 113, 205, 206, 305, 398, 159, 252, 359, 323, 162, 36, 123, 124, 125, 220, 223, 326, 11, 12, 15, 76, 82, 146, 163, 78, 150, 77,
  147, 148, 90, 149, 71, 143, 245, 210, 308, 203, 274, 352, 246, 144, 211, 116, 204, 115, 208, 209, 307, 400, 467, 502, 468, 469, 470, 503, 19, 84, 85, 86, 83, 87, 126, 121, 38,
  30, 110, 16, 81, 155, 157, 249, 355, 356, 439, 250, 357, 358, 440, 487, 111, 44, 122, 20, 89, 91, 170, 270, 271, 281, 380, 272, 375, 275, 92, 96, 221, 325, 21, 94, 173, 277, 22,
  95, 174, 175, 97, 179, 98, 180, 181, 182, 282, 381, 183, 23, 100, 24, 101, 46, 49, 75, 37, 39, 31, 112, 40, 32, 114, 41, 33, 119, 214, 319, 137, 408, 407, 472, 504, 505, 519,
  526, 411, 410, 320, 321, 412, 413, 322, 215, 42, 43, 17, 45, 47, 127, 224, 48, 50]
set_option maxRecDepth 100000 in
theorem clo6_is : Tryz.prog.closure 6 = clo6 := closure_is (by decide) (by decide +kernel)
noncomputable def clo7 : List Nat := [7, 52, 9, 53, 62, 51, 26, 25, 102, 187, 261, 107, 200, 188, 189, 177, 176, 128, 278, 151, 247, 161, 253, 160, 280, 164, 255, 360, 441, 443, 442, 444, 254, 279, 376, 196, 293, 258,
  361, 27, 108, 202, 304, 201, 302, 396, 303, 213, 318, 397, 458, 464, 492, 459, 499, 460, 402, 403, 461, 500, 501, 518, 462, 463, 465, 466, 377, 165, 256, 257, 259, 378, 167, 262,
  379, 171, 276, 190, 287, 384, 451, 288, 385, 324, 386, 222, 387, 388, 289, 178, 154, 99, 184, 132, 185, 283, 195, 292, 284, 382, 383, 450, 495, 197, 294, 392, 117, 212, 309, 315,
  406, 310, 401, 311, 312, 404, 405, 471, 313, 314, 316, 317, 118, 285, 80, 103, 186, 286, 207, 306, 399, 291, 390, 452, 496, 516, 517, 391, 453, 497, 454, 455, 260, 362, 445, 488,
  489, 512, 513, 490, 491, 514, 515, 524, 525, 498, 456, 191, 192, 166, 290, 389, 158, 251, 193, 93, 104, 105, 194, 106, 172, 198, 295, 393, 296, 273, 297, 298, 300, 299, 395, 394,
  457, 265, 365, 447, 409, 446, 301, 199, 156, 248, 354, 353, 169, 269, 373, 374, 88, 79, 152, 153, 168, 263, 363, 364, 264, 266, 366, 367, 448, 493, 268, 372, 267, 368, 369, 370,
  449, 494, 371, 138, 139, 242, 347, 127, 224, 426, 427, 422, 223, 326, 145, 323, 72, 113, 205, 206, 305, 398, 428, 429, 430, 476, 477, 508, 522, 431, 478, 479, 509, 523, 432, 433,
  434, 435, 481, 482, 483, 480, 348, 436, 484, 510, 129, 55, 56, 133, 227, 329, 240, 330, 228, 229, 331, 241, 57, 332, 414, 415, 328, 121, 220, 216, 217, 473, 506, 520, 334, 327,
  418, 42, 123, 36, 124, 125, 11, 12, 15, 76, 82, 146, 163, 78, 150, 77, 147, 148, 90, 149, 71, 143, 219, 159, 252, 359, 162, 245, 210, 308, 203, 274, 352, 246, 144, 211, 116, 204,
  115, 208, 209, 307, 400, 467, 502, 468, 469, 470, 503, 19, 84, 85, 86, 83, 87, 126, 218, 235, 343, 50, 122, 20, 89, 91, 170, 270, 355, 271, 281, 380, 272, 375, 275, 92, 96, 221,
  325, 21, 94, 81, 155, 157, 249, 356, 439, 250, 357, 358, 440, 487, 173, 277, 22, 95, 174, 175, 97, 179, 98, 180, 181, 182, 282, 381, 183, 23, 100, 24, 101, 134, 48, 46, 47, 49,
  75, 135, 230, 225, 333, 416, 417, 419, 438, 421, 423, 231, 335, 336, 420, 232, 337, 338, 233, 339, 340, 424, 234, 341, 342, 425, 474, 349, 350, 437, 486, 485, 511, 475, 507, 521,
  120, 236, 237, 344, 238, 345, 239, 346, 244, 351, 59, 136, 58, 38, 30, 110, 16, 111, 130, 226, 61, 131, 60, 137, 54]
set_option maxRecDepth 100000 in
theorem clo7_is : Tryz.prog.closure 7 = clo7 := closure_is (by decide) (by decide +kernel)
noncomputable def clo8 : List Nat := [8, 63, 65, 56, 57, 141, 225, 327, 243, 328, 142, 244, 349, 419, 128, 107, 200, 188, 350, 437, 422, 260, 362, 445, 488, 489, 253, 512, 513, 490, 491, 514, 515, 524, 525, 486, 485,
  315, 406, 511, 351, 438, 433, 130, 226, 64, 140, 59, 136, 240, 241, 329, 55, 133, 227, 330, 228, 229, 331, 332, 414, 415, 121, 220, 207, 306, 399, 324, 216, 217, 473, 506, 127,
  224, 520, 510, 161, 196, 261, 293, 258, 361, 27, 108, 202, 304, 201, 302, 396, 303, 213, 318, 397, 458, 464, 492, 459, 499, 460, 402, 403, 461, 500, 501, 518, 462, 463, 465, 466,
  165, 256, 257, 259, 167, 262, 171, 276, 334, 418, 42, 123, 36, 124, 125, 222, 223, 326, 145, 323, 72, 113, 205, 206, 305, 398, 11, 12, 15, 76, 82, 146, 163, 80, 154, 151, 247,
  99, 184, 132, 185, 283, 195, 292, 284, 382, 383, 450, 495, 197, 294, 392, 117, 212, 309, 310, 401, 311, 312, 404, 405, 471, 313, 314, 316, 317, 118, 285, 79, 152, 153, 78, 150,
  77, 147, 148, 90, 169, 269, 373, 374, 149, 156, 248, 354, 353, 71, 143, 219, 159, 252, 359, 160, 162, 245, 210, 308, 203, 274, 352, 246, 144, 211, 116, 204, 115, 208, 296, 209,
  307, 400, 467, 502, 468, 469, 470, 503, 19, 84, 85, 158, 251, 86, 83, 87, 164, 255, 360, 441, 443, 442, 444, 254, 166, 88, 168, 263, 363, 364, 265, 365, 447, 409, 446, 264, 266,
  366, 367, 448, 493, 268, 372, 267, 368, 369, 370, 449, 494, 371, 126, 218, 235, 343, 50, 122, 20, 89, 91, 170, 270, 355, 271, 281, 380, 272, 375, 273, 275, 172, 106, 187, 198,
  295, 393, 297, 298, 300, 299, 395, 394, 457, 301, 199, 92, 96, 176, 177, 278, 280, 279, 376, 377, 378, 379, 178, 104, 105, 194, 291, 390, 452, 496, 516, 517, 391, 453, 497, 454,
  455, 498, 456, 93, 221, 325, 21, 94, 81, 155, 157, 249, 356, 439, 250, 357, 358, 440, 487, 173, 277, 22, 95, 174, 175, 97, 179, 98, 180, 181, 182, 282, 381, 183, 23, 100, 24,
  101, 186, 286, 134, 48, 46, 47, 49, 75, 25, 102, 189, 190, 287, 384, 451, 288, 385, 386, 387, 388, 289, 103, 191, 192, 290, 389, 193, 135, 230, 333, 416, 417, 421, 423, 432, 231,
  335, 336, 420, 232, 337, 338, 233, 339, 340, 424, 234, 341, 342, 425, 474, 475, 507, 521, 120, 236, 237, 344, 238, 345, 239, 346, 242, 347, 426, 427, 428, 429, 430, 476, 477,
  508, 522, 431, 478, 479, 509, 523, 434, 435, 481, 482, 483, 480, 348, 436, 484, 66, 67, 62, 51, 26, 138, 139, 58, 38, 30, 110, 16, 111]
set_option maxRecDepth 100000 in
theorem clo8_is : Tryz.prog.closure 8 = clo8 := closure_is (by decide) (by decide +kernel)
end Go.Proofs.YthkcicilmhpfjaaGreatDoor

