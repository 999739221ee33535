/- A part of the proof. -/
import Derived.Test.YthknocapablpaaaGreatDoorProg
import GoSem.ClaimFn
import Derived.KernelRfl
import Derived.Test.YthknocapablpaaaGreatDoorAi17
/- What each function leads to, as a trie; the closures out of it. -/
namespace Go.Eng
set_option maxRecDepth 100000

/-- The closure, by a trie of what was seen. -/
noncomputable def clo (T:Tr (List Nat))(N:Nat):Nat→List Nat→Tr Bool→List Nat→List Nat
 | 0,_,_,seen=>seen.reverse
 | _+1,[],_,seen=>seen.reverse
 | n+1,f::todo,sn,seen=>match sn.get f with
  | some _=>clo T N n todo sn seen
  | none=>Tr.setK deep sn f (some true) fun sn'=>clo T N n (((bif Nat.blt f N then T.get f else none).getD [])++todo) sn' (f::seen)

noncomputable def nlEq:List Nat→List Nat→Bool
 | [],[]=>true
 | a::l,b::k=>Nat.beq a b && nlEq l k
 | _,_=>false
theorem nlEq_eq:∀ {l k:List Nat},nlEq l k=true→l=k
 | [],[],_=>rfl
 | a::l,b::k,h=>by
  simp only [nlEq,Bool.and_eq_true] at h
  rw [Nat.eq_of_beq_eq_true h.1,nlEq_eq h.2]
noncomputable def leadsAt (P:Program)(T:Tr (List Nat)):Nat→List Func→Bool
 | _,[]=>true
 | i,fn::l=>nlEq ((T.get i).getD []) (P.leadsTo fn) && leadsAt P T (i+1) l
theorem leadsAt_ok {P:Program}{T:Tr (List Nat)}:∀ {l:List Func}{i j:Nat}{fn:Func},leadsAt P T i l=true→l[j]? = some fn→(T.get (i+j)).getD []=P.leadsTo fn
 | fn'::l,i,0,fn,h,e=>by
  simp only [leadsAt,Bool.and_eq_true] at h
  cases e
  exact nlEq_eq h.1
 | fn'::l,i,j+1,fn,h,e=>by
  simp only [leadsAt,Bool.and_eq_true] at h
  have:=leadsAt_ok (j:=j) h.2 (by simpa using e)
  rwa [show i+1+j=i+(j+1) by omega] at this
theorem clo_eq {P:Program}{T:Tr (List Nat)}{N:Nat}(hN:P.funcs.size=N)(hb:N≤1000000)(hl:leadsAt P T 0 P.funcs.toList=true):∀ {n:Nat}{todo:List Nat}{sn:Tr Bool}{seen:List Nat},(∀ f,(sn.get f).isSome=true ↔ f∈seen)→(∀ f∈todo,f≤1000000)→(∀ f x,T.get f=some x→∀ y∈x,y≤1000000)→P.closureVia n todo seen=clo T N n todo sn seen
 | 0,_,_,_,_,_,_=>by rw [Program.closureVia,clo]
 | n+1,[],_,_,_,_,_=>by rw [Program.closureVia,clo];simp
 | n+1,f::todo,sn,seen,h,ht,hT=>by
  have hf:f≤1000000:=ht f (List.mem_cons_self ..)
  have ht':∀ g∈todo,g≤1000000:=fun g hg=>ht g (List.mem_cons_of_mem _ hg)
  rw [Program.closureVia,clo]
  cases e:sn.get f with
  | some b=>
   have:seen.contains f=true:=by simpa using (h f).1 (by rw [e];rfl)
   rw [if_pos this]
   exact clo_eq hN hb hl h ht' hT
  | none=>
   have:¬ seen.contains f=true:=by
    intro q
    have:=(h f).2 (by simpa using q)
    rw [e] at this;cases this
   rw [if_neg this]
   simp only [setK_eq]
   have hx:((P.funcs[f]?).elim [] P.leadsTo)=((bif Nat.blt f N then T.get f else none).getD []):=by
    by_cases q:f<N
    ·have q' : Nat.blt f N = true := by simpa [Nat.blt_eq] using q
     rw [q',cond_true]
     have hs:f<P.funcs.size:=by omega
     have e2:P.funcs[f]? = some P.funcs[f]:=Array.getElem?_eq_getElem hs
     have e3:P.funcs.toList[f]? = some P.funcs[f]:=by rw [Array.getElem?_toList];exact e2
     have:=leadsAt_ok (i:=0) (j:=f) hl e3
     rw [Nat.zero_add] at this
     rw [e2]
     exact this.symm
    ·have q':Nat.blt f N=false:=by
      cases z:Nat.blt f N with
      | false=>rfl
      | true=>exact absurd (by simpa [Nat.blt_eq] using z) q
     rw [q',cond_false,Array.getElem?_eq_none (by omega)]
     rfl
   rw [hx]
   refine clo_eq hN hb hl (fun g=>?_) (fun g hg=>?_) hT
   ·by_cases q : f = g
    ·subst q
     rw [Tr.get_set_same deep sn f _ (Nat.lt_of_le_of_lt hf (by decide +kernel))]
     simp
    ·rw [Tr.get_set_other deep sn f g _ q, h g]
     constructor
     ·exact List.mem_cons_of_mem _
     ·intro z
      rcases List.mem_cons.1 z with z | z
      ·exact absurd z.symm q
      ·exact z
   ·rcases List.mem_append.1 hg with z | z
    ·cases q : (bif Nat.blt f N then T.get f else none) with
     | none=>rw [q] at z;cases z
     | some x=>
      rw [q] at z
      cases w:Nat.blt f N with
      | true=>rw [w,cond_true] at q;exact hT f x q g z
      | false=>rw [w,cond_false] at q;cases q
    ·exact ht' g z

noncomputable def smallT:Tr (List Nat)→Bool
 | .nil=>true
 | .node v l r=>(match v with | some x=>x.all fun y=>Nat.ble y 1000000 | none=>true) && smallT l && smallT r
theorem smallT_ok:∀ {T:Tr (List Nat)},smallT T=true→∀ f x,T.get f=some x→∀ y∈x,y≤1000000
 | .nil,_,f,x,h=>by rw [Tr.get_nil] at h;cases h
 | .node v l r,hs,f,x,h=>by
  simp only [smallT,Bool.and_eq_true] at hs
  match f with
  | 0=>
   rw [Tr.get_zero] at h
   subst h
   intro y hy
   have:=List.all_eq_true.1 hs.1.1 y hy
   exact Nat.le_of_ble_eq_true this
  | f+1=>
   by_cases q:f % 2=0
   ·rw [Tr.get_even v l r f q] at h;exact smallT_ok hs.1.2 _ _ h
   ·rw [Tr.get_odd v l r f (by omega)] at h;exact smallT_ok hs.2 _ _ h
end Go.Eng
namespace Go.Proofs.YthknocapablpaaaGreatDoor
open Go.Eng

noncomputable def leadsTr:Tr (List Nat):=(.node none (.node none (.node (some [9,10,11,12,13,14,15,17,18,16,10]) (.node (some [9,23,24,25,32,24,39,40,37,32,24,37,24]) (.node (some [55]) (.node (some
 [75,29]) (.node (some [61,64,68,116,117,118]) (.node (some [211]) N N) N) (.node (some [119,160,161]) (.node (some [132]) (.node (some [336]) N N) (.node (some [201,92,
 91]) N N)) N)) (.node (some [86,40,89,90]) (.node (some [103,40,78,85]) (.node (some [223,54,137,137]) (.node (some [325,272,326,120,327]) N N) N) (.node (some [288,
 289,289,290,289,290,291]) (.node (some [372,372]) N N) N)) (.node (some [68,182,118]) (.node (some [67]) (.node (some [302]) N N) N) N))) (.node none (.node (some [30])
 (.node (some [61,134]) (.node (some [216,102]) (.node (some [324,169]) N N) N) (.node (some [282,281]) N N)) (.node (some [174,155]) (.node none (.node (some [347,348]) N
 N) N) (.node (some [230,230]) N N))) (.node (some [102]) (.node (some [151]) N (.node (some [300]) (.node (some [344,344,344]) N N) N)) (.node (some [192]) (.node (some [269])
 (.node (some [356,356,356]) N N) N) (.node none (.node (some [344,344]) N N) N))))) (.node (some [19,20]) (.node none (.node (some [29,84]) (.node (some [125]) (.node (some
 [212]) (.node (some [118]) N N) N) (.node none (.node (some [359,361,360,362]) N N) N)) (.node (some [168,97,169,171,170,171,172]) (.node (some [250]) N N) (.node (some
 [310,310,310,311]) (.node (some [380]) N N) N))) (.node (some [69,61,95,71,94]) (.node (some [146,147]) (.node none (.node (some [333]) N N) N) (.node none (.node (some
 [375,375]) N N) N)) (.node (some [119,185,186]) (.node (some [263]) (.node (some [230,230]) N N) N) (.node (some [320,320,320,321]) (.node (some [387,388]) N N) N))))
 (.node (some [72]) (.node (some [86,54,40,40]) (.node (some [18]) (.node (some [220]) N N) (.node none (.node (some [366,188,367]) N N) N)) (.node none (.node (some [188])
 (.node (some [349]) N N) N) (.node (some [312,314,313,316,315]) N N))) (.node (some [105,106,107,108,109,108]) (.node none (.node (some [143,249]) (.node (some [335,
 92,91]) N N) N) N) (.node (some [132]) (.node (some [273,274]) N N) N))))) (.node (some [9,10,19,20,10,17,12,17,16,17,21,22,20,17,16,10]) (.node (some [48])
 (.node (some [26,56]) (.node (some [82,82,18]) (.node (some [121,105,122,123]) (.node (some [168]) (.node (some [101,279,248,280]) N N) N) (.node (some [277]) (.node
 (some [358,358,358]) N N) N)) (.node (some [162,164,165,164,163,166]) N (.node (some [307,307]) N N))) (.node none (.node none (.node (some [233,234]) (.node (some
 [328]) N N) N) (.node (some [293]) (.node (some [374,374,374]) N N) N)) (.node (some [171,105,179,183]) (.node (some [119,165,165,165,164,258]) N N) (.node (some [319,
 319]) (.node (some [234,385,386]) N N) N)))) (.node (some [11,12]) (.node (some [42,43,43,43,43,46,47,16,47,37]) (.node (some [137,137]) (.node (some [219]) (.node
 (some [280]) N N) N) (.node (some [283]) (.node (some [366]) N N) N)) (.node (some [175]) (.node (some [252,251]) N N) N)) (.node none (.node (some [145,152]) (.node none
 (.node (some [279,334,203,201]) N N) N) (.node none (.node (some [344,344]) N N) N)) (.node (some [188]) (.node (some [119,186,271,119]) (.node (some [357]) N N) N) (.node
 none (.node (some [389,389,389]) N N) N))))) (.node (some [15,53]) (.node (some [67,68]) (.node none (.node (some [128,129]) (.node (some [214,215]) (.node (some [172]) N
 N) (.node (some [344]) N N)) (.node (some [279]) (.node (some [117,272]) N N) N)) (.node none (.node (some [234]) N N) (.node (some [230,230,230]) (.node (some [240,240,381,
 381]) N N) N))) (.node (some [18,100]) (.node none (.node (some [239,239]) N N) (.node (some [297,296]) (.node (some [376,376,376,377]) N N) N)) (.node (some [189]) (.node
 (some [264,264,264,264,266,265,267,268]) N N) N))) (.node (some [18]) (.node (some [86,47]) (.node (some [76,76,137,137]) (.node (some [195]) (.node (some [280,279,
 280,162]) N N) N) (.node none (.node (some [368,369,370,371]) N N) N)) (.node (some [179,180,181,115]) (.node none (.node (some [350,299]) N N) N) (.node (some [317,
 318]) (.node (some [383,383,383,383,383,383,384]) N N) N))) (.node (some [115]) (.node (some [154,155,156]) (.node none (.node (some [201]) N N) N) (.node (some [305]) N
 N)) (.node none N (.node none (.node (some [390,381,381]) N N) N))))))) (.node (some [1]) (.node (some [9,10,11,12,12,17,12,14,17,16,10]) (.node (some [9,41,11,42,
 12,43,28,44,30,45,32,46,16,36,37,17,47,16,41]) (.node none (.node (some [76,76,77,26,26,78,79,80,81]) (.node (some [119,120]) (.node none N (.node (some
 [383,383,383,383,383,383]) N N)) (.node none (.node (some [321]) N N) N)) (.node none (.node none (.node (some [289,290]) N N) N) (.node (some [230]) (.node (some [379]) N
 N) N))) (.node none (.node (some [145,144]) (.node (some [224,225,226,227,228,229,230,231,232,144,144]) N N) (.node (some [292]) (.node (some [373,373,373]) N N) N))
 (.node (some [68,182,80]) (.node (some [110,106]) N N) N))) (.node (some [11,12,28,30,30,32,32,34,28,28,37,37]) (.node (some [85]) (.node (some [135,136]) (.node
 (some [217,217,218,218]) (.node (some [279]) N N) N) (.node (some [196]) (.node (some [365]) N N) N)) (.node none (.node (some [110,106]) N N) (.node (some [230,230,230,
 230]) N N))) (.node (some [103,40]) (.node none (.node (some [240,241,242,243,244,245,246,247,152,152]) (.node (some [279]) N N) N) (.node (some [302,303]) (.node
 (some [372,372]) N N) N)) (.node (some [193,80,81]) (.node (some [175,253,270,190]) N N) (.node none (.node (some [377]) N N) N))))) (.node (some [14,51,50,52]) (.node
 (some [59,61,60,61,62,63,61,64,65,66]) (.node (some [16]) (.node (some [125,127,126]) (.node (some [213,212]) (.node (some [170]) N N) (.node (some [392,393]) N N))
 (.node (some [252,251]) N N)) (.node (some [55,57,57]) (.node (some [165]) N N) (.node none (.node (some [230]) N N) N))) (.node (some [69,96,97,98,99,66]) (.node (some
 [148,149,150,150]) N (.node (some [295,295]) (.node (some [308,309]) N N) N)) (.node (some [140,187,188]) (.node (some [264,264,264,265,266,177,267]) (.node (some
 [145]) N N) N) N))) (.node (some [73,26,56]) (.node (some [86,47,88,87]) (.node (some [138,139]) (.node (some [221]) (.node (some [165,165,165,165,258,164]) N N) N)
 (.node (some [284,285]) (.node (some [366,188,367]) N N) N)) (.node (some [176,177,169,178]) (.node (some [175,256,190]) (.node (some [301,301]) N N) N) (.node none
 (.node (some [382]) N N) N))) (.node (some [106,110,110,105,111,112,113,114]) (.node (some [153,153]) (.node (some [54,143,249]) N N) (.node (some [304]) N N)) (.node
 (some [203,204,205,201,206,208,207]) (.node (some [275]) N N) (.node (some [323]) N N)))))) (.node (some [9,23,24,25,26,27,28,29,30,31,32,33,34,35,16,36,37,
 38,38,24]) (.node (some [11,49,12,12,12,49,12,17]) (.node (some [57,58]) (.node (some [28,83]) (.node (some [61,95,124]) (.node none (.node (some [165,165]) N N) N)
 (.node (some [278]) N N)) (.node (some [61,95,167]) (.node (some [203]) (.node (some [337]) N N) N) (.node (some [308,309]) N N))) (.node (some [93,40,79]) (.node none
 (.node (some [235,236,237,238]) (.node (some [329,330,331,332]) N N) N) (.node (some [145,294]) (.node (some [344]) N N) N)) (.node (some [170,172,171,184]) (.node
 (some [259,260,261,262]) (.node (some [352,353,352,354,353,355]) N N) N) (.node (some [308,309]) N N)))) (.node (some [69,71,70]) (.node none (.node none (.node none
 (.node (some [264,264]) N N) N) (.node none (.node (some [366]) N N) N)) (.node (some [125]) (.node (some [67,253,254,190,255]) (.node (some [203,201]) N N) N) N)) (.node
 (some [104]) (.node (some [92,92,91]) (.node (some [54,101,165,163,248,164,163,166]) N N) (.node none (.node (some [344,344,344,344]) N N) N)) (.node (some [194,195,
 195,196,197,198,197,200,199,201,202]) (.node (some [272]) (.node (some [92]) N N) N) (.node (some [322]) N N))))) (.node (some [54]) (.node (some [67]) (.node (some [38])
 (.node (some [130,131,132,133]) (.node (some [119]) (.node (some [184]) N N) (.node (some [394,394,394]) N N)) (.node (some [280]) (.node (some [363,364]) N N) N)) (.node
 (some [173,173,173,82,82,173,173]) (.node none (.node (some [338,339,340,341,342,343,344,345,346,294,294]) N N) N) (.node (some [153,153]) N N))) (.node (some
 [101,76,76]) (.node none (.node (some [239,149,150]) N N) (.node (some [298,96,299]) N N)) (.node (some [175,191,190]) (.node (some [140,187,188]) (.node (some [311]) N
 N) N) N))) (.node (some [26,73,73,26,56,74]) (.node (some [86,76,76,47,81]) (.node (some [140,141,140,142,142,141,143]) (.node (some [222]) N N) (.node (some [286,
 287]) (.node (some [279,280,279,280]) N N) N)) (.node (some [67]) (.node (some [257,54]) (.node (some [351]) N N) (.node (some [367,367]) N N)) N)) (.node none (.node (some
 [157,158,159]) (.node (some [131]) N N) (.node (some [306]) (.node (some [378]) N N) N)) (.node (some [209,210]) (.node (some [276,21]) (.node (some [92]) N N) N) (.node
 (some [68]) (.node (some [391,391,391]) N N) N))))))))
theorem leads_ok:leadsAt Tryz.prog leadsTr 0 Tryz.prog.funcs.toList=true:=by decide +kernel
theorem leads_small:smallT leadsTr=true:=by decide +kernel
theorem funcs_size:Tryz.prog.funcs.size=431:=by kernel_rfl
theorem fuel_is:(1+(Tryz.prog.funcs.toList.map fun g=>(Tryz.prog.leadsTo g).length+1).sum)=1246:=by kernel_rfl
theorem closure_is {f:Nat}(hf:f≤1000000){L:List Nat}(h:nlEq (clo leadsTr 431 1246 [f] .nil []) L=true):Tryz.prog.closure f=L:=by
 unfold Program.closure
 rw [fuel_is,clo_eq (sn:=.nil) funcs_size (by decide) leads_ok (fun g=>by rw [Tr.get_nil];simp) (fun g hg=>by rw [List.mem_singleton.1 hg];exact hf) (smallT_ok leads_small)]
 exact nlEq_eq h
noncomputable def clo3:List Nat:=[3,9,48,10,11,19,20,59,105,175,67,125,106,107,108,176,110,177,119,192,165,234,164,258,169,252,323,359,361,360,362,251,178,259,118,191,190,276,
 21,68,127,211,126,209,293,210,145,233,294,338,344,372,339,375,340,308,309,341,376,377,389,342,343,345,346,260,170,253,254,255,261,172,256,262,
 184,270,109,179,263,324,180,264,279,265,280,266,267,181,268,115,185,186,272,271,325,117,189,326,363,364,382,391,120,193,277,80,144,224,230,153,
 225,307,226,227,310,311,356,228,229,231,232,81,327,61,60,111,182,140,221,305,187,273,328,365,383,384,274,329,366,330,331,188,275,333,368,369,
 385,386,370,371,387,388,392,393,367,332,112,113,171,183,269,162,203,114,62,63,64,116,65,121,122,194,278,195,196,197,198,200,199,282,281,334,
 201,283,335,92,91,202,123,132,213,297,296,212,295,347,348,66,95,160,161,124,204,284,285,205,206,286,287,336,373,208,292,207,288,289,290,337,
 374,291,49,12,14,54,101,76,138,139,220,304,51,69,128,129,168,71,134,94,157,158,131,159,50,93,154,163,250,322,248,166,155,143,223,137,219,249,
 156,40,85,79,103,174,257,78,141,142,222,306,352,379,353,354,355,380,52,96,97,98,167,99,17,26,70,130,133,214,298,299,349,215,300,301,350,378,
 56,13,15,55,102,173,82,53,18,57,58,104,100,16]
theorem clo3_is:Tryz.prog.closure 3=clo3:=closure_is (by decide) (by decide +kernel)
end Go.Proofs.YthknocapablpaaaGreatDoor
