/- A part of the proof. -/
import Derived.Test.YtelhdbkkigehgaaGreatDoorProg
import GoSem.ClaimFn
import Derived.KernelRfl
import Derived.Test.YtelhdbkkigehgaaGreatDoorZs3

/- What each function leads to, as a trie; the closures out of it. -/
namespace Go.Eng

/-- The closure, by a trie of what was seen. -/
noncomputable def clo (T : Tr (List Nat)) (N : Nat) : Nat → List Nat → Tr Bool → List Nat → List Nat
  | 0, _, _, seen => seen.reverse
  | _ + 1, [], _, seen => seen.reverse
  | n + 1, f :: todo, sn, seen => match sn.get f with
    | some _ => clo T N n todo sn seen
    | none => Tr.setK deep sn f (some true) fun sn' => clo T N n (((bif Nat.blt f N then T.get f else none).getD []) ++ todo) sn' (f :: seen)

noncomputable def nlEq : List Nat → List Nat → Bool
  | [], [] => true
  | a :: l, b :: k => Nat.beq a b && nlEq l k
  | _, _ => false
theorem nlEq_eq : ∀ {l k : List Nat}, nlEq l k = true → l = k
  | [], [], _ => rfl
  | a :: l, b :: k, h => by
    simp only [nlEq, Bool.and_eq_true] at h
    rw [Nat.eq_of_beq_eq_true h.1, nlEq_eq h.2]
noncomputable def leadsAt (P : Program) (T : Tr (List Nat)) : Nat → List Func → Bool
  | _, [] => true
  | i, fn :: l => nlEq ((T.get i).getD []) (P.leadsTo fn) && leadsAt P T (i + 1) l
theorem leadsAt_ok {P : Program} {T : Tr (List Nat)} : ∀ {l : List Func} {i j : Nat} {fn : Func}, leadsAt P T i l = true → l[j]? = some fn → (T.get (i + j)).getD [] = P.leadsTo fn
  | fn' :: l, i, 0, fn, h, e => by
    simp only [leadsAt, Bool.and_eq_true] at h
    cases e
    exact nlEq_eq h.1
  | fn' :: l, i, j + 1, fn, h, e => by
    simp only [leadsAt, Bool.and_eq_true] at h
    have := leadsAt_ok (j := j) h.2 (by simpa using e)
    rwa [show i + 1 + j = i + (j + 1) by omega] at this
theorem clo_eq {P : Program} {T : Tr (List Nat)} {N : Nat} (hN : P.funcs.size = N) (hb : N ≤ 1000000) (hl : leadsAt P T 0 P.funcs.toList = true) : ∀ {n : Nat} {todo : List Nat} {sn : Tr Bool} {seen : List Nat}, (∀ f, (sn.get f).isSome = true ↔ f ∈ seen) → (∀ f ∈ todo, f ≤ 1000000) → (∀ f x, T.get f = some x → ∀ y ∈ x, y ≤ 1000000) → P.closureVia n todo seen = clo T N n todo sn seen
  | 0, _, _, _, _, _, _ => by rw [Program.closureVia, clo]
  | n + 1, [], _, _, _, _, _ => by rw [Program.closureVia, clo]; simp
  | n + 1, f :: todo, sn, seen, h, ht, hT => by
    have hf : f ≤ 1000000 := ht f (List.mem_cons_self ..)
    have ht' : ∀ g ∈ todo, g ≤ 1000000 := fun g hg => ht g (List.mem_cons_of_mem _ hg)
    rw [Program.closureVia, clo]
    cases e : sn.get f with
    | some b =>
      have : seen.contains f = true := by simpa using (h f).1 (by rw [e]; rfl)
      rw [if_pos this]
      exact clo_eq hN hb hl h ht' hT
    | none =>
      have : ¬ seen.contains f = true := by
        intro q
        have := (h f).2 (by simpa using q)
        rw [e] at this; cases this
      rw [if_neg this]
      simp only [setK_eq]
      have hx : ((P.funcs[f]?).elim [] P.leadsTo) = ((bif Nat.blt f N then T.get f else none).getD []) := by
        by_cases q : f < N
        · have q' : Nat.blt f N = true := by simpa [Nat.blt_eq] using q
          rw [q', cond_true]
          have hs : f < P.funcs.size := by omega
          have e2 : P.funcs[f]? = some P.funcs[f] := Array.getElem?_eq_getElem hs
          have e3 : P.funcs.toList[f]? = some P.funcs[f] := by rw [Array.getElem?_toList]; exact e2
          have := leadsAt_ok (i := 0) (j := f) hl e3
          rw [Nat.zero_add] at this
          rw [e2]
          exact this.symm
        · have q' : Nat.blt f N = false := by
            cases z : Nat.blt f N with
            | false => rfl
            | true => exact absurd (by simpa [Nat.blt_eq] using z) q
          rw [q', cond_false, Array.getElem?_eq_none (by omega)]
          rfl
      rw [hx]
      refine clo_eq hN hb hl (fun g => ?_) (fun g hg => ?_) hT
      · by_cases q : f = g
        · subst q
          rw [Tr.get_set_same deep sn f _ (Nat.lt_of_le_of_lt hf (by decide +kernel))]
          simp
        · rw [Tr.get_set_other deep sn f g _ q, h g]
          constructor
          · exact List.mem_cons_of_mem _
          · intro z
            rcases List.mem_cons.1 z with z | z
            · exact absurd z.symm q
            · exact z
      · rcases List.mem_append.1 hg with z | z
        · cases q : (bif Nat.blt f N then T.get f else none) with
          | none => rw [q] at z; cases z
          | some x =>
            rw [q] at z
            cases w : Nat.blt f N with
            | true => rw [w, cond_true] at q; exact hT f x q g z
            | false => rw [w, cond_false] at q; cases q
        · exact ht' g z

noncomputable def smallT : Tr (List Nat) → Bool
  | .nil => true
  | .node v l r => (match v with | some x => x.all fun y => Nat.ble y 1000000 | none => true) && smallT l && smallT r
theorem smallT_ok : ∀ {T : Tr (List Nat)}, smallT T = true → ∀ f x, T.get f = some x → ∀ y ∈ x, y ≤ 1000000
  | .nil, _, f, x, h => by rw [Tr.get_nil] at h; cases h
  | .node v l r, hs, f, x, h => by
    simp only [smallT, Bool.and_eq_true] at hs
    match f with
    | 0 =>
      rw [Tr.get_zero] at h
      subst h
      intro y hy
      have := List.all_eq_true.1 hs.1.1 y hy
      exact Nat.le_of_ble_eq_true this
    | f + 1 =>
      by_cases q : f % 2 = 0
      · rw [Tr.get_even v l r f q] at h; exact smallT_ok hs.1.2 _ _ h
      · rw [Tr.get_odd v l r f (by omega)] at h; exact smallT_ok hs.2 _ _ h
end Go.Eng
namespace Go.Proofs.YtelhdbkkigehgaaGreatDoor
open Go.Eng

noncomputable def leadsTr : Tr (List Nat) := (.node none (.node none (.node (some [5, 6, 6, 6, 7, 6, 5]) (.node none (.node (some [32]) (.node (some [59, 46]) (.node (some [64, 117]) (.node (some [216]) (.node (some [148,
  293]) N N) N) (.node (some [288]) (.node (some [413]) (.node (some [580, 575, 575]) N N) N) (.node (some [467, 377, 516]) N N))) (.node (some [173, 172]) (.node (some [210, 253,
  254]) (.node (some [401, 402]) N N) (.node (some [240]) N N)) (.node (some [41, 333]) N N))) (.node none (.node (some [140]) (.node (some [221, 81]) (.node (some [272, 390, 281])
  (.node (some [558, 558]) N N) N) N) (.node (some [318, 319, 318, 320, 320, 319, 321]) N N)) (.node (some [105, 189, 105, 190, 189, 191]) (.node (some [176]) (.node (some [325])
  (.node (some [560]) N N) N) (.node (some [351, 506]) N N)) (.node none (.node (some [242]) N N) (.node (some [351]) N N))))) (.node (some [48]) (.node (some [79, 14]) (.node
  (some [41]) (.node (some [34, 147, 226, 227, 228, 34, 68, 229, 228, 34, 63, 230, 48]) N (.node (some [489, 490]) N N)) (.node (some [151, 200, 272, 299, 300, 281]) N (.node (some
  [526, 527, 528, 529, 530, 531, 532, 533, 455, 455]) N N))) (.node (some [185, 73]) (.node (some [270, 271]) (.node (some [405, 406, 407, 244]) (.node (some [351, 240, 351, 240])
  N N) N) N) (.node (some [125, 343]) (.node (some [467, 358, 468, 358, 361, 358, 361]) N N) N))) (.node (some [107]) (.node (some [149, 155, 159, 160, 161, 162]) (.node (some
  [244]) (.node (some [46]) (.node (some [353, 321, 449]) N N) N) (.node (some [495, 495, 495, 495, 497, 496, 498, 258]) N N)) (.node none (.node (some [215]) N N) (.node (some
  [246]) N N))) (.node (some [211, 211]) (.node (some [168]) (.node (some [425, 426]) (.node (some [510, 511]) N N) N) (.node (some [512, 512, 512, 513]) N N)) (.node (some [367,
  368, 365]) (.node (some [358, 358]) N N) N))))) (.node none (.node none (.node (some [64, 65]) (.node (some [122]) (.node (some [64]) (.node (some [154, 376, 377]) N N) (.node
  (some [482, 483]) N N)) (.node (some [290, 46, 291]) (.node (some [445, 399]) (.node (some [581, 581, 581]) N N) N) N)) (.node (some [181]) (.node (some [264, 265, 266, 264])
  (.node none (.node (some [564, 564, 564]) N N) N) N) (.node (some [34, 35]) (.node (some [465, 466]) N N) (.node (some [546]) N N)))) (.node (some [49]) (.node (some [148])
  (.node none (.node (some [216, 393, 257, 218, 279, 246, 278, 280, 218, 312]) N N) N) (.node (some [327]) (.node (some [309, 309, 340]) N N) (.node (some [383, 386]) N N))) (.node
  (some [197, 151, 198, 151, 154, 199, 151, 200, 201, 202]) (.node (some [180]) N N) (.node (some [355, 355]) (.node (some [264, 358, 358, 358, 361, 375]) N N) (.node (some [240,
  351, 240, 539]) N N))))) (.node (some [54]) (.node (some [64, 83, 84, 86, 85, 87, 88, 89]) (.node (some [34, 131, 133, 134, 132]) (.node (some [71, 73, 72]) (.node (some [383,
  384, 385, 386, 387, 389, 388]) N N) (.node (some [127, 345]) N N)) (.node (some [148, 169, 293, 272, 305, 306, 307, 308, 310, 311, 312, 219, 313, 312, 314]) (.node (some [442,
  454, 454]) N N) (.node (some [536, 537, 538]) N N))) (.node none (.node (some [274, 172]) (.node (some [318, 59, 46]) N N) N) (.node (some [346, 348, 347, 349]) (.node none
  (.node (some [291, 291]) N N) N) N))) (.node (some [112, 113]) (.node (some [64, 83, 168]) (.node (some [151, 250]) (.node (some [395, 128, 396, 397]) (.node (some [383]) N N) N)
  (.node (some [500]) N N)) (.node none (.node (some [458, 213, 158]) N N) N)) (.node (some [119, 118, 121]) (.node none (.node (some [292, 431]) (.node (some [562, 562]) N N) N)
  (.node (some [442, 442]) N N)) (.node (some [370]) N N)))))) (.node (some [12]) (.node (some [20, 21, 22, 21, 21, 21, 21, 21, 21, 21, 17, 23]) (.node (some [13, 20, 39, 14, 40])
  (.node (some [14, 34, 63, 21]) (.node (some [118, 119, 119, 118, 121, 120]) (.node (some [216, 218, 219]) (.node (some [374, 373]) (.node (some [554, 554, 554]) N N) N) N) (.node
  (some [290]) (.node (some [435, 353, 211, 211]) (.node (some [571, 571]) N N) N) N)) (.node (some [177, 172]) (.node (some [154, 150, 259, 150, 259, 150, 259]) (.node (some [403,
  403, 403, 403, 403, 403, 404]) (.node (some [562, 562]) N N) N) (.node (some [360]) N N)) (.node (some [335, 336, 336]) (.node (some [463, 205, 205]) N N) (.node (some [545, 309,
  340]) N N)))) (.node (some [25, 46]) (.node (some [141]) (.node (some [64, 83, 146, 235, 236]) (.node none (.node (some [559, 559, 559, 560]) N N) N) N) N) (.node (some [193,
  194, 195, 196]) (.node (some [178]) (.node (some [59, 46]) N N) (.node (some [508]) N N)) (.node (some [352, 353]) N (.node (some [495, 495]) N N))))) (.node none (.node none
  (.node (some [125, 127, 128, 129]) (.node (some [41, 71, 231, 139, 41]) (.node (some [334]) (.node (some [309]) N N) N) (.node (some [353, 463, 358, 28, 464, 361, 28, 29]) N N))
  (.node (some [249, 292, 302, 303]) (.node (some [450, 451, 452, 453]) N N) (.node (some [148, 169, 534, 281, 246, 247, 248]) N N))) (.node (some [187]) (.node (some [242, 273])
  (.node (some [408, 292, 405, 409]) N N) N) (.node (some [234]) (.node (some [358]) N N) (.node (some [548]) N N)))) (.node (some [108, 110, 58]) (.node (some [166, 84, 151, 160,
  167]) (.node (some [160, 199]) (.node (some [367, 394, 365]) (.node (some [150]) N N) N) (.node (some [499]) N N)) (.node (some [279, 332, 331]) (.node (some [457]) N N) (.node
  (some [248]) N N))) (.node (some [212, 213]) (.node (some [182, 148, 170, 116, 276]) (.node (some [281]) N N) (.node (some [442, 442, 442]) N N)) (.node (some [46]) N (.node
  (some [553, 553, 553]) N N)))))) (.node (some [30]) (.node (some [46]) (.node (some [34, 68, 21, 66, 34, 69, 70, 70, 71, 71, 72, 71, 73, 21, 21]) (.node (some [64, 124]) (.node
  (some [41, 223, 224, 225]) (.node none (.node (some [518, 518]) N N) N) (.node (some [488]) N N)) (.node (some [292, 293, 294, 256, 295, 256]) (.node (some [446, 243]) (.node
  (some [571]) N N) N) N)) (.node (some [183, 172]) (.node (some [150, 259, 150, 267]) (.node (some [354]) (.node (some [565, 566, 567, 568, 569, 570, 571, 572, 573, 549, 549]) N
  N) N) (.node (some [503, 257]) N N)) (.node (some [337, 226, 342, 341]) (.node (some [376, 377]) N N) N))) (.node (some [105]) (.node (some [149, 155, 156, 151, 152, 153]) (.node
  (some [166]) (.node (some [218]) N N) (.node (some [421]) N N)) (.node (some [252]) (.node (some [456]) N N) N)) (.node (some [205, 205, 206, 118, 118, 207, 158, 208, 209])
  (.node (some [142]) (.node (some [422, 422]) (.node (some [571]) N N) N) (.node (some [509, 509]) N N)) (.node (some [356, 357, 358, 28, 359, 360, 28, 361, 358, 28, 29, 29, 29,
  360, 362, 327, 327]) N (.node (some [351, 551, 383, 386]) N N))))) (.node none (.node (some [71, 94, 95, 96, 97, 98, 99, 100, 101, 102, 103]) (.node (some [137, 138]) (.node
  (some [220]) (.node (some [270]) (.node (some [309]) N N) N) (.node (some [238, 239, 239, 350, 393, 361]) N N)) (.node (some [316, 317]) N (.node (some [151, 304, 164]) N N)))
  (.node (some [188]) (.node (some [174]) (.node (some [411, 208, 209]) (.node (some [526, 526, 575, 575]) N N) N) (.node (some [247]) N N)) (.node (some [318, 351]) (.node (some
  [469, 168]) N N) N))) (.node none (.node (some [64, 148, 170, 115]) (.node (some [158]) (.node (some [399, 398, 400]) N N) N) (.node (some [141]) (.node (some [166, 377, 460,
  461, 462, 202]) (.node (some [386, 309, 340]) N N) N) N)) (.node (some [182]) (.node none (.node (some [432]) (.node (some [571, 571, 571, 571]) N N) N) N) (.node (some [207])
  (.node (some [477, 478]) N N) (.node (some [442, 442]) N N)))))))) (.node (some [1]) (.node (some [8, 5, 9, 10, 11, 5, 5]) (.node (some [19]) (.node (some [33, 14, 34, 35, 36,
  37, 38]) (.node (some [60, 61, 62]) (.node none (.node (some [216, 217]) (.node (some [255, 371, 257, 372]) (.node (some [513]) N N) N) (.node (some [479, 480]) N N)) (.node
  (some [289]) (.node (some [434]) N N) (.node (some [517]) N N))) (.node (some [175, 172]) (.node (some [255, 244, 256, 258, 257, 246, 247]) (.node none (.node (some [561, 561,
  561]) N N) N) (.node (some [502, 501]) N N)) (.node (some [41, 333, 334]) (.node (some [463, 351, 464, 240]) N N) (.node (some [386]) N N)))) (.node none (.node (some [141, 142])
  (.node (some [233, 172]) (.node (some [354, 392, 391]) (.node (some [510, 511]) N N) N) N) (.node (some [323, 322]) (.node (some [337, 353, 213, 213]) N N) N)) (.node (some
  [192]) (.node (some [216, 277, 280]) (.node (some [264, 419, 420]) (.node (some [576, 576, 576]) N N) N) (.node (some [507]) N N)) (.node (some [351]) N (.node (some [240]) N
  N))))) (.node (some [49, 50, 49, 49, 49, 49, 49, 49, 49, 49, 49, 49, 49, 49, 49, 49, 49, 51, 49, 49, 51]) (.node none (.node (some [125, 126]) (.node (some [71, 125, 72, 223])
  (.node (some [379]) (.node (some [557]) N N) N) (.node (some [491]) N N)) (.node (some [264, 301]) (.node (some [321, 449]) N N) N)) (.node (some [186]) (.node (some [242, 272])
  (.node (some [272, 390, 208]) N N) (.node (some [504]) N N)) (.node (some [74, 18]) (.node (some [374, 373]) N N) N))) (.node (some [108, 109]) (.node (some [149, 151, 163, 164,
  164, 160, 165, 162]) (.node (some [245, 246, 247, 249, 248, 201]) (.node (some [218, 279, 247, 278, 219, 279, 246, 278]) N N) (.node (some [46]) N N)) (.node (some [148, 293])
  (.node (some [237, 238, 239]) N N) (.node (some [247]) N N))) (.node none (.node (some [169]) (.node none (.node (some [578, 578, 578, 579]) N N) N) N) (.node (some [367, 363,
  369, 365]) (.node (some [475]) N N) (.node (some [552, 552, 552]) N N)))))) (.node (some [7, 26, 27, 6, 21, 28, 29]) (.node none (.node (some [21, 66, 28, 29, 21, 67]) (.node
  (some [64, 123]) (.node (some [222]) (.node (some [261, 262]) (.node (some [555]) N N) N) (.node (some [484, 485, 485, 486, 485, 486, 487]) N N)) (.node (some [290, 46, 291])
  (.node none (.node (some [582, 582, 582]) N N) N) (.node (some [524, 525]) N N))) (.node (some [182]) (.node none (.node (some [367]) N N) N) (.node none (.node (some [467]) N N)
  (.node (some [485, 486]) N N)))) (.node (some [53]) (.node (some [149, 150, 151, 152, 153, 154]) (.node (some [242]) (.node (some [148]) N N) (.node (some [403, 403, 403, 403,
  403, 403]) N N)) (.node (some [241, 328]) N N)) (.node (some [203, 204]) (.node (some [215, 148, 283]) (.node (some [309]) N N) (.node (some [442]) N N)) (.node (some [264, 163,
  265]) (.node (some [470, 471, 472, 473]) N N) N)))) (.node (some [55]) (.node (some [90, 91, 92, 93]) (.node (some [41, 136, 71, 72, 41]) (.node none N (.node (some [216, 128,
  127, 492]) N N)) (.node (some [315]) (.node (some [354]) N N) (.node (some [539, 361, 358, 361, 28, 29]) N N))) (.node none (.node (some [182, 276]) (.node (some [410]) (.node
  (some [574]) N N) N) (.node (some [312, 246]) N N)) (.node (some [238, 239, 239, 350]) (.node (some [272]) N N) (.node (some [550]) N N)))) (.node (some [114, 115]) (.node (some
  [64, 169]) (.node (some [210, 251]) N (.node (some [106]) N N)) (.node none (.node (some [166, 151, 304, 155, 459]) N N) N)) (.node (some [123, 214]) (.node none (.node none
  (.node (some [571, 571]) N N) N) (.node (some [442, 442, 442, 442]) N N)) (.node none (.node (some [300, 334]) N N) N)))))) (.node (some [13, 14, 15, 16, 17, 18]) (.node (some
  [25, 24]) (.node (some [41, 42, 43, 44, 45, 45]) (.node (some [41]) (.node (some [22, 28, 29]) (.node (some [220, 221]) (.node (some [358, 358, 358, 358, 375, 361]) N N) (.node
  (some [481]) N N)) (.node (some [290]) (.node (some [436, 437, 438, 439, 440, 441, 442, 443, 444, 322, 322]) (.node (some [579]) N N) N) (.node (some [519, 521, 520, 523, 522]) N
  N))) (.node (some [179, 172]) (.node (some [260, 261, 261, 262, 261, 262, 263]) (.node none (.node (some [563, 563, 563]) N N) N) N) (.node (some [337, 213, 338, 339]) N N)))
  (.node (some [49, 49, 49, 25, 25, 49, 49, 25]) (.node (some [143, 71, 144, 131, 145, 99, 146, 147, 131]) (.node (some [237, 238, 239, 239, 240, 241]) (.node (some [275]) N N)
  (.node (some [493, 494]) N N)) (.node (some [324, 150, 325, 326]) (.node (some [323, 455]) N N) N)) (.node none (.node (some [216, 279, 281, 278, 282]) (.node (some [279, 292,
  421, 241]) N N) (.node (some [111]) N N)) (.node (some [354]) N N)))) (.node (some [52]) (.node (some [80, 81, 82]) (.node (some [41, 130]) (.node (some [41, 232, 41, 18, 18,
  232]) (.node (some [380, 334, 381, 301, 382]) N N) N) (.node (some [151, 304, 267]) N (.node (some [393, 328, 535]) N N))) (.node none (.node (some [242]) (.node (some [246, 247,
  408, 248]) (.node (some [442]) N N) N) (.node (some [505]) N N)) (.node (some [215, 148, 344, 345]) N (.node (some [323, 549]) N N)))) (.node (some [111]) (.node (some [64])
  (.node none (.node none (.node (some [325]) N N) N) N) (.node none (.node (some [353]) N N) (.node (some [540, 542, 541, 543]) N N))) (.node none (.node (some [284, 285, 286,
  287]) (.node (some [428, 429, 430, 427]) (.node (some [571, 571, 571]) N N) N) (.node (some [422, 422]) N N)) (.node (some [264]) (.node (some [476, 476, 476]) N N) N))))) (.node
  (some [31]) (.node (some [21, 21, 47]) (.node (some [74, 21, 75, 67, 76, 67, 78, 77, 21, 67]) (.node (some [21, 22, 70, 28, 29]) (.node (some [135]) (.node (some [378]) (.node
  (some [556, 516]) N N) N) (.node (some [318, 59, 46]) N N)) (.node (some [293, 148, 148, 292, 271, 296, 297, 298]) (.node (some [447, 448]) N N) N)) (.node (some [184, 172])
  (.node (some [268, 269]) N N) (.node (some [337, 205, 205, 226, 209]) (.node (some [399]) N N) (.node (some [547]) N N)))) (.node (some [106]) (.node (some [157]) (.node (some
  [243]) (.node none (.node (some [506, 358, 358]) N N) N) (.node (some [495, 495, 495, 496, 497, 371, 498]) N N)) (.node (some [329, 330]) N (.node (some [281]) N N))) (.node
  (some [166, 155, 210]) (.node none (.node (some [423, 424]) (.node (some [577, 577]) N N) N) (.node (some [510, 511]) N N)) (.node (some [242, 363, 364, 365, 366]) (.node (some
  [474]) N N) N)))) (.node (some [56, 57, 58]) (.node (some [104]) (.node (some [41, 139]) (.node none (.node (some [148, 293]) N N) N) (.node (some [205, 205, 211, 211]) N (.node
  (some [270, 460, 257, 408, 246, 408, 247]) N N))) (.node none (.node (some [216, 277, 279, 247, 278]) (.node (some [412, 413, 413, 360, 414, 415, 414, 417, 416, 386, 418]) N N)
  (.node (some [279, 248]) N N)) N)) (.node (some [114, 116]) (.node (some [125, 171, 125]) (.node (some [212, 213, 207, 252]) N (.node (some [351]) N N)) (.node none (.node (some
  [358]) N N) (.node (some [544]) N N))) (.node (some [215]) (.node none (.node (some [433]) N N) (.node (some [515, 514]) N N)) (.node none N (.node (some [323]) N N)))))))))
theorem leads_ok : leadsAt Tryz.prog leadsTr 0 Tryz.prog.funcs.toList = true := by decide +kernel
theorem leads_small : smallT leadsTr = true := by decide +kernel
theorem funcs_size : Tryz.prog.funcs.size = 620 := by kernel_rfl
theorem fuel_is : (1 + (Tryz.prog.funcs.toList.map fun g => (Tryz.prog.leadsTo g).length + 1).sum) = 1877 := by kernel_rfl
theorem closure_is {f : Nat} (hf : f ≤ 1000000) {L : List Nat} (h : nlEq (clo leadsTr 620 1877 [f] .nil []) L = true) : Tryz.prog.closure f = L := by
  unfold Program.closure
  rw [fuel_is, clo_eq (sn := .nil) funcs_size (by decide) leads_ok (fun g => by rw [Tr.get_nil]; simp) (fun g hg => by rw [List.mem_singleton.1 hg]; exact hf) (smallT_ok leads_small)]
  exact nlEq_eq h
noncomputable def clo3 : List Nat := [3, 5, 12, 7, 26, 52, 53, 105, 187, 27, 54, 106, 6, 13, 30, 56, 108, 109, 188, 57, 110, 58, 111, 189, 190, 191, 288, 14, 31, 59, 112, 192, 289, 403, 404, 113, 193, 290, 194, 195,
  46, 104, 186, 284, 285, 399, 398, 400, 286, 287, 401, 402, 493, 494, 291, 196, 15, 32, 60, 114, 115, 197, 292, 367, 242, 354, 293, 294, 256, 255, 148, 371, 264, 379, 358, 361,
  375, 257, 374, 474, 540, 542, 541, 543, 373, 372, 470, 281, 394, 365, 469, 168, 272, 392, 491, 391, 489, 548, 490, 323, 445, 549, 565, 571, 562, 566, 577, 567, 510, 511, 568,
  578, 579, 581, 569, 570, 572, 573, 471, 246, 363, 364, 366, 472, 247, 368, 473, 248, 369, 295, 405, 421, 503, 406, 495, 351, 496, 240, 497, 498, 407, 258, 244, 163, 265, 334,
  266, 380, 300, 410, 381, 477, 478, 544, 561, 301, 411, 500, 208, 322, 436, 442, 422, 437, 509, 438, 439, 512, 513, 554, 440, 441, 443, 444, 209, 382, 151, 198, 271, 390, 318,
  433, 508, 296, 297, 408, 409, 499, 539, 383, 298, 154, 199, 200, 299, 201, 249, 302, 412, 413, 360, 414, 415, 417, 416, 502, 501, 551, 386, 481, 545, 309, 340, 418, 303, 325,
  446, 515, 514, 243, 355, 465, 466, 202, 304, 419, 420, 267, 384, 479, 480, 385, 387, 482, 483, 546, 563, 389, 488, 388, 484, 485, 486, 547, 564, 487, 61, 62, 116, 203, 169, 273,
  305, 306, 279, 241, 352, 463, 464, 353, 205, 316, 317, 432, 507, 307, 308, 310, 423, 424, 504, 552, 311, 425, 426, 505, 553, 312, 219, 313, 314, 428, 429, 430, 427, 204, 315,
  431, 506, 16, 33, 34, 41, 63, 64, 117, 206, 211, 327, 118, 166, 268, 269, 270, 155, 250, 210, 324, 150, 326, 447, 467, 377, 516, 555, 448, 517, 518, 556, 574, 207, 319, 320, 434,
  321, 435, 158, 212, 328, 449, 213, 252, 21, 35, 65, 119, 121, 120, 36, 66, 22, 47, 28, 55, 107, 29, 67, 122, 37, 68, 123, 69, 124, 214, 329, 450, 519, 521, 520, 557, 526, 575,
  580, 582, 523, 522, 451, 452, 524, 525, 453, 330, 70, 71, 72, 125, 182, 126, 215, 73, 127, 216, 128, 217, 332, 331, 454, 129, 218, 38, 74, 130, 220, 221, 141, 75, 131, 133, 223,
  333, 224, 225, 335, 336, 337, 134, 135, 147, 226, 338, 455, 527, 558, 528, 529, 559, 560, 576, 530, 531, 532, 533, 339, 227, 228, 229, 342, 341, 456, 230, 48, 132, 222, 76, 136,
  78, 139, 77, 137, 231, 343, 138, 232, 18, 42, 80, 142, 81, 82, 143, 144, 233, 234, 344, 237, 238, 239, 345, 457, 534, 172, 276, 145, 83, 146, 235, 346, 348, 459, 536, 537, 538,
  347, 458, 393, 535, 349, 460, 461, 164, 462, 236, 350, 99, 181, 43, 84, 149, 152, 245, 356, 357, 376, 475, 359, 468, 362, 153, 160, 86, 157, 85, 156, 251, 370, 87, 159, 253, 254,
  161, 259, 162, 260, 261, 262, 378, 476, 263, 88, 165, 89, 167, 44, 90, 91, 92, 93, 170, 45, 94, 171, 274, 275, 278, 280, 95, 173, 174, 277, 96, 175, 176, 97, 177, 178, 282, 98,
  179, 180, 283, 395, 396, 492, 550, 397, 100, 101, 183, 102, 184, 103, 185, 17, 20, 39, 79, 140, 40]
set_option maxRecDepth 100000 in
theorem clo3_is : Tryz.prog.closure 3 = clo3 := closure_is (by decide) (by decide +kernel)
noncomputable def clo4 : List Nat := [4, 8, 19, 5, 12, 7, 26, 52, 53, 105, 187, 27, 54, 106, 6, 13, 30, 56, 108, 109, 188, 57, 110, 58, 111, 189, 190, 191, 288, 14, 31, 59, 112, 192, 289, 403, 404, 113, 193, 290, 194,
  195, 46, 104, 186, 284, 285, 399, 398, 400, 286, 287, 401, 402, 493, 494, 291, 196, 15, 32, 60, 114, 115, 197, 292, 367, 242, 354, 293, 294, 256, 255, 148, 371, 264, 379, 358,
  361, 375, 257, 374, 474, 540, 542, 541, 543, 373, 372, 470, 281, 394, 365, 469, 168, 272, 392, 491, 391, 489, 548, 490, 323, 445, 549, 565, 571, 562, 566, 577, 567, 510, 511,
  568, 578, 579, 581, 569, 570, 572, 573, 471, 246, 363, 364, 366, 472, 247, 368, 473, 248, 369, 295, 405, 421, 503, 406, 495, 351, 496, 240, 497, 498, 407, 258, 244, 163, 265,
  334, 266, 380, 300, 410, 381, 477, 478, 544, 561, 301, 411, 500, 208, 322, 436, 442, 422, 437, 509, 438, 439, 512, 513, 554, 440, 441, 443, 444, 209, 382, 151, 198, 271, 390,
  318, 433, 508, 296, 297, 408, 409, 499, 539, 383, 298, 154, 199, 200, 299, 201, 249, 302, 412, 413, 360, 414, 415, 417, 416, 502, 501, 551, 386, 481, 545, 309, 340, 418, 303,
  325, 446, 515, 514, 243, 355, 465, 466, 202, 304, 419, 420, 267, 384, 479, 480, 385, 387, 482, 483, 546, 563, 389, 488, 388, 484, 485, 486, 547, 564, 487, 61, 62, 116, 203, 169,
  273, 305, 306, 279, 241, 352, 463, 464, 353, 205, 316, 317, 432, 507, 307, 308, 310, 423, 424, 504, 552, 311, 425, 426, 505, 553, 312, 219, 313, 314, 428, 429, 430, 427, 204,
  315, 431, 506, 16, 33, 34, 41, 63, 64, 117, 206, 211, 327, 118, 166, 268, 269, 270, 155, 250, 210, 324, 150, 326, 447, 467, 377, 516, 555, 448, 517, 518, 556, 574, 207, 319, 320,
  434, 321, 435, 158, 212, 328, 449, 213, 252, 21, 35, 65, 119, 121, 120, 36, 66, 22, 47, 28, 55, 107, 29, 67, 122, 37, 68, 123, 69, 124, 214, 329, 450, 519, 521, 520, 557, 526,
  575, 580, 582, 523, 522, 451, 452, 524, 525, 453, 330, 70, 71, 72, 125, 182, 126, 215, 73, 127, 216, 128, 217, 332, 331, 454, 129, 218, 38, 74, 130, 220, 221, 141, 75, 131, 133,
  223, 333, 224, 225, 335, 336, 337, 134, 135, 147, 226, 338, 455, 527, 558, 528, 529, 559, 560, 576, 530, 531, 532, 533, 339, 227, 228, 229, 342, 341, 456, 230, 48, 132, 222, 76,
  136, 78, 139, 77, 137, 231, 343, 138, 232, 18, 42, 80, 142, 81, 82, 143, 144, 233, 234, 344, 237, 238, 239, 345, 457, 534, 172, 276, 145, 83, 146, 235, 346, 348, 459, 536, 537,
  538, 347, 458, 393, 535, 349, 460, 461, 164, 462, 236, 350, 99, 181, 43, 84, 149, 152, 245, 356, 357, 376, 475, 359, 468, 362, 153, 160, 86, 157, 85, 156, 251, 370, 87, 159, 253,
  254, 161, 259, 162, 260, 261, 262, 378, 476, 263, 88, 165, 89, 167, 44, 90, 91, 92, 93, 170, 45, 94, 171, 274, 275, 278, 280, 95, 173, 174, 277, 96, 175, 176, 97, 177, 178, 282,
  98, 179, 180, 283, 395, 396, 492, 550, 397, 100, 101, 183, 102, 184, 103, 185, 17, 20, 39, 79, 140, 40, 9, 23, 10, 25, 24, 49, 50, 51, 11]
set_option maxRecDepth 100000 in
theorem clo4_is : Tryz.prog.closure 4 = clo4 := closure_is (by decide) (by decide +kernel)
end Go.Proofs.YtelhdbkkigehgaaGreatDoor

