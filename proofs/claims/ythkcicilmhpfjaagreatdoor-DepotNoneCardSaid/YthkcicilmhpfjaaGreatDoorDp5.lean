/- A part of the proof. -/
import Derived.Test.YthkcicilmhpfjaaGreatDoorRows
import Derived.ChangeSame
import Derived.ChangeVars
import Derived.JoinedOf
import Derived.RowKit
import Derived.RowKitTokens
import Derived.LaidLaws
import Derived.Stop.LaidErr
import Derived.Stop.ErrReads
import Derived.ProofKit
import Derived.ChangeAt
import Derived.ChangeAt2
import Derived.OpenShut
import Derived.Deep.Slices
import Derived.Deep.Strs
import Derived.Test.YthkcicilmhpfjaaGreatDoorDp4

/- The run of 23: the states between its pieces. -/
namespace Go.Proofs.YthkcicilmhpfjaaGreatDoor
open Go.Eng
noncomputable def p23 : List Code := match Tryz.f29.body with | some b => flat b [] | none => []
noncomputable def h23_0 : Heap := (.node none (.node (some (.ro 261 [.sym 1])) N N) N)
noncomputable def m23_0 : Tmps := N
noncomputable def m23_1 : Tmps := (.node (some (.bool false)) (.node (some (.ptr 7 0)) (.node (some (.ptr 129 0)) (.node none (.node none (.node (some (.agg [I 3, I 1, I 0, .str [97], .str [104], I 10, I 0, .str
  []])) N N) N) (.node (some (.tup [.ptr 7 0, .ptr 77 0])) N N)) (.node none N (.node (some (.ptr 77 0)) N N))) (.node none (.node none (.node none (.node (some (.agg [I 0, I 0,
  .slice 128 0 3 3 false])) N N) N) (.node (some (.ptr 7 0)) N N)) (.node none N (.node (some (.agg [I 3, I 2, I 1, .str [97], .str [104], I 10, I 0, .str []])) N N)))) (.node
  (some (.ptr 77 0)) (.node none (.node none (.node none (.node (some (.slice 128 0 3 3 false)) N N) N) (.node (some (.tup [.ptr 7 0, .ptr 77 0])) N N)) (.node none N (.node (some
  (.bool false)) N N))) (.node none (.node none N (.node (some (.ptr 77 0)) N N)) (.node none N (.node (some (.agg [I 7, I 1, I 0, .str [97], .str [104], I 12, I 0, .str []])) N
  N)))))
noncomputable def h23_1 : Heap := (.node none (.node (some (.ro 261 [.sym 1])) (.node none (.node (some (.cells 189 [I 1048576, I 0, .bool false, .map 6, .nilf, .nils])) N N) (.node none (.node none (.node none
  (.node (some (.cells 269 [.ptr 7 0, I 0, .bool false, I 1])) N N) N) N) (.node none N (.node none (.node (some (.cells 152 [.ptr 89 0])) N N) N)))) (.node none (.node none
  (.node none (.node none (.node none (.node (some (.cells 24 [I 0, I 0, .slice 128 0 3 3 false])) N N) N) N) N) (.node none N (.node none (.node (some (.cells 253 [.bool true,
  .nils])) N N) N))) (.node (some (.cells 246 [.ptr 7 0, I 0, .bool false, .slice 12 0 1 1 false, I 1, I 2, I 13])) N (.node none (.node none (.node (some (.cells 58 [.ptr 7 0,
  .ptr 13 0, .ptr 67 0, .slice 91 0 1 1 true, .map 76, I 0])) N N) N) N)))) (.node none (.node none (.node none (.node none (.node none (.node none (.node (some (.cells 111 [I 3,
  I 2, I 1, .str [97], .str [104], I 10, I 0, .str [], I 7, I 1, I 0, .str [97], .str [104], I 12, I 0, .str [], I 3, I 1, I 0, .str [97], .str [104], I 10, I 0, .str []])) N N)
  N) N) N) N) (.node (some (.cells 150 [.str [], .nils])) N (.node none (.node none (.node (some (.map [] 0)) N N) N) N))) (.node (some (.map [(.str [109], .agg [.str [2, 0, 5, 1,
  2, 1, 0, 0, 0, 21, 0, 5, 3], I 13], 1)] 2)) N N)))
noncomputable def m23_2 : Tmps := (.node (some (.bool false)) (.node (some (.ptr 7 0)) (.node (some (.ptr 129 0)) (.node none (.node none (.node (some (.agg [I 3, I 1, I 0, .str [97], .str [104], I 10, I 0, .str
  []])) N N) N) (.node (some (.tup [.ptr 7 0, .ptr 77 0])) (.node (some (I 3)) N N) N)) (.node none (.node none (.node (some (.ptr 77 0)) N N) N) (.node (some (.ptr 77 0)) N N)))
  (.node (some (I 3)) (.node none (.node none (.node (some (.agg [I 0, I 0, .slice 128 0 3 3 false])) N N) N) (.node (some (.ptr 7 0)) N N)) (.node none (.node none (.node (some
  (.tup [.agg [I 0, I 0, I 3], I 3, I 0])) N N) N) (.node (some (.agg [I 3, I 2, I 1, .str [97], .str [104], I 10, I 0, .str []])) N N)))) (.node (some (.ptr 77 0)) (.node (some
  (.ptr 901 0)) (.node none (.node none (.node (some (.slice 128 0 3 3 false)) N N) N) (.node (some (.tup [.ptr 7 0, .ptr 77 0])) (.node (some (I 0)) N N) N)) (.node none (.node
  none (.node (some (.agg [I 0, I 0, .slice 128 0 3 3 false])) N N) N) (.node (some (.bool false)) N N))) (.node (some (I 0)) (.node none (.node none (.node (some (.tup [.agg [I 0,
   I 0, I 3], I 3, I 0])) N N) N) (.node (some (.ptr 77 0)) N N)) (.node none (.node none (.node (some (.agg [I 0, I 0, I 3])) N N) N) (.node (some (.agg [I 7, I 1, I 0, .str [97],
   .str [104], I 12, I 0, .str []])) N N)))))
noncomputable def h23_2 : Heap := (.node none (.node (some (.ro 261 [.sym 1])) (.node none (.node (some (.cells 189 [I 1048576, I 0, .bool false, .map 6, .nilf, .nils])) N N) (.node none (.node none (.node none
  (.node (some (.cells 269 [.ptr 7 0, I 0, .bool false, I 1])) N N) N) N) (.node none N (.node none (.node (some (.cells 152 [.ptr 89 0])) N N) N)))) (.node none (.node none N
  (.node none N (.node none (.node (some (.cells 253 [.bool true, .slice 674 0 1 1 false])) N N) N))) (.node (some (.cells 246 [.ptr 7 0, I 0, .bool false, .slice 12 0 1 1 false,
  I 1, I 2, I 13])) N (.node none (.node none (.node (some (.cells 58 [.ptr 7 0, .ptr 13 0, .ptr 67 0, .slice 91 0 1 1 true, .map 76, I 6])) N N) N) N)))) (.node none (.node none
  N (.node (some (.cells 150 [.str [], .nils])) (.node none (.node none (.node none (.node none N (.node none N (.node (some (.cells 38 [.str [115, 0, 0, 0, 0, 0, 0, 0, 3, 0, 0, 0,
   0, 0, 0, 0, 1], I 5, .str [3, 1, 0, 10, 0, 1, 97, 1, 104, 0], .str [115, 0, 0, 0, 0, 0, 0, 0, 3, 0, 0, 0, 0, 0, 0, 0, 2], I 1, .str [3, 2, 1, 10, 0, 1, 97, 1, 104, 0], .str
  [115, 0, 0, 0, 0, 0, 0, 0, 7, 0, 0, 0, 0, 0, 0, 0, 1], I 3, .str [7, 1, 0, 12, 0, 1, 97, 1, 104, 0], .str [120, 97, 0, 104, 0, 0, 0, 0, 0, 0, 0, 0, 10, 0, 0, 0, 0, 0, 0, 0, 3, 0,
   0, 0, 0, 0, 0, 0, 1], I 6, .str [], .str [120, 97, 0, 104, 0, 0, 0, 0, 0, 0, 0, 0, 10, 0, 0, 0, 0, 0, 0, 0, 3, 0, 0, 0, 0, 0, 0, 0, 2], I 2, .str [], .str [120, 97, 0, 104, 0,
  0, 0, 0, 0, 0, 0, 0, 12, 0, 0, 0, 0, 0, 0, 0, 7, 0, 0, 0, 0, 0, 0, 0, 1], I 4, .str []])) N N))) N) N) N) (.node none (.node none (.node (some (.map [] 0)) N N) N) N))) (.node
  (some (.map [(.str [109], .agg [.str [2, 0, 5, 1, 2, 1, 0, 0, 0, 21, 0, 5, 3], I 13], 1), (.str [106, 49], .agg [.str [2, 0, 186, 17, 115, 0, 0, 0, 0, 0, 0, 0, 3, 0, 0, 0, 0, 0,
  0, 0, 2, 1, 10, 3, 2, 1, 10, 0, 1, 97, 1, 104, 0, 29, 120, 97, 0, 104, 0, 0, 0, 0, 0, 0, 0, 0, 10, 0, 0, 0, 0, 0, 0, 0, 3, 0, 0, 0, 0, 0, 0, 0, 2, 2, 0, 17, 115, 0, 0, 0, 0, 0,
  0, 0, 7, 0, 0, 0, 0, 0, 0, 0, 1, 3, 10, 7, 1, 0, 12, 0, 1, 97, 1, 104, 0, 29, 120, 97, 0, 104, 0, 0, 0, 0, 0, 0, 0, 0, 12, 0, 0, 0, 0, 0, 0, 0, 7, 0, 0, 0, 0, 0, 0, 0, 1, 4, 0,
  17, 115, 0, 0, 0, 0, 0, 0, 0, 3, 0, 0, 0, 0, 0, 0, 0, 1, 5, 10, 3, 1, 0, 10, 0, 1, 97, 1, 104, 0, 29, 120, 97, 0, 104, 0, 0, 0, 0, 0, 0, 0, 0, 10, 0, 0, 0, 0, 0, 0, 0, 3, 0, 0,
  0, 0, 0, 0, 0, 1, 6, 0, 91, 100, 8, 175, 3], I 194], 2)] 3)) (.node none (.node none (.node none N (.node none (.node none N (.node none (.node (some (.cells 254 [.slice 900 0 6
  6 true])) N N) N)) N)) N) N) N)))
noncomputable def m23_3 : Tmps := (.node (some (.bool false)) (.node (some (.ptr 7 0)) (.node (some (.ptr 129 0)) (.node (some (.ptr 1053 0)) (.node none (.node (some (.agg [I 3, I 1, I 0, .str [97], .str [104], I
  10, I 0, .str []])) N N) (.node (some (.ptr 77 0)) N N)) (.node (some (.tup [.ptr 7 0, .ptr 77 0])) (.node (some (I 3)) N N) N)) (.node none (.node none (.node (some (.ptr 77
  0)) N N) N) (.node (some (.ptr 77 0)) (.node (some (.tup [.agg [I 3, .slice 1052 0 2 2 true], I 0])) N N) N))) (.node (some (I 3)) (.node (some (.ptr 1278 0)) (.node none (.node
  (some (.agg [I 0, I 0, .slice 128 0 3 3 false])) N N) (.node (some (.agg [.slice 1275 0 1 2 true, I 3, .bool true])) N N)) (.node (some (.ptr 7 0)) (.node (some (.tup [.agg [I 3,
   .slice 1052 0 2 2 true], I 0])) N N) N)) (.node none (.node none (.node (some (.tup [.agg [I 0, I 0, I 3], I 3, I 0])) N N) N) (.node (some (.agg [I 3, I 2, I 1, .str [97],
  .str [104], I 10, I 0, .str []])) (.node (some (I 0)) N N) N)))) (.node (some (.ptr 77 0)) (.node (some (.ptr 901 0)) (.node (some (I 0)) (.node none (.node (some (.slice 128 0
  3 3 false)) N N) (.node (some (.tup [.agg [.slice 1275 0 1 2 true, I 3, .bool true], I 0])) N N)) (.node (some (.tup [.ptr 7 0, .ptr 77 0])) (.node (some (I 0)) N N) N)) (.node
  none (.node none (.node (some (.agg [I 0, I 0, .slice 128 0 3 3 false])) N N) N) (.node (some (.bool false)) (.node (some (.agg [I 3, .slice 1052 0 2 2 true])) N N) N))) (.node
  (some (I 0)) (.node (some (I 0)) (.node none (.node (some (.tup [.agg [I 0, I 0, I 3], I 3, I 0])) N N) (.node (some (I 0)) N N)) (.node (some (.ptr 77 0)) (.node (some (.ptr 77
  0)) N N) N)) (.node none (.node none (.node (some (.agg [I 0, I 0, I 3])) N N) N) (.node (some (.agg [I 7, I 1, I 0, .str [97], .str [104], I 12, I 0, .str []])) (.node (some
  (.tup [.agg [.slice 1275 0 1 2 true, I 3, .bool true], I 0])) N N) N)))))
noncomputable def h23_3 : Heap := (.node none (.node (some (.ro 261 [.sym 1])) (.node none (.node (some (.cells 189 [I 1048576, I 0, .bool false, .map 6, .nilf, .nils])) N N) (.node none (.node none (.node none
  (.node (some (.cells 269 [.ptr 7 0, I 0, .bool false, I 1])) N N) N) N) (.node none N (.node none (.node (some (.cells 152 [.ptr 89 0])) N N) (.node none N (.node none N (.node
  none (.node none (.node (some (.cells 71 [I 3, .slice 1272 0 2 2 true, I 7, .slice 1277 0 1 1 true])) N N) N) N))))))) (.node none (.node none N (.node none N (.node none (.node
  (some (.cells 253 [.bool true, .slice 674 0 1 1 false])) N N) N))) (.node (some (.cells 246 [.ptr 7 0, I 0, .bool false, .slice 12 0 1 1 false, I 1, I 2, I 13])) N (.node none
  (.node none (.node (some (.cells 58 [.ptr 7 0, .ptr 13 0, .ptr 67 0, .slice 91 0 1 1 true, .map 76, I 6])) N N) N) (.node none (.node none (.node none (.node none (.node none
  (.node (some (.cells 71 [I 3, .slice 1052 0 2 2 true])) N N) N) N) N) N) (.node none N (.node none N (.node none (.node none (.node (some (.cells 111 [I 7, I 1, I 0, .str [97],
  .str [104], I 12, I 0, .str []])) N N) N) N)))))))) (.node none (.node none (.node none N (.node none N (.node none N (.node none N (.node none N (.node none (.node none (.node
  (some (.cells 111 [I 3, I 1, I 0, .str [97], .str [104], I 10, I 0, .str [], I 3, I 2, I 1, .str [97], .str [104], I 10, I 0, .str []])) N N) N) N)))))) (.node (some (.cells 150
  [.str [], .nils])) (.node none (.node none (.node none (.node none N (.node none N (.node (some (.cells 38 [.str [115, 0, 0, 0, 0, 0, 0, 0, 3, 0, 0, 0, 0, 0, 0, 0, 1], I 5, .str
  [3, 1, 0, 10, 0, 1, 97, 1, 104, 0], .str [115, 0, 0, 0, 0, 0, 0, 0, 3, 0, 0, 0, 0, 0, 0, 0, 2], I 1, .str [3, 2, 1, 10, 0, 1, 97, 1, 104, 0], .str [115, 0, 0, 0, 0, 0, 0, 0, 7,
  0, 0, 0, 0, 0, 0, 0, 1], I 3, .str [7, 1, 0, 12, 0, 1, 97, 1, 104, 0], .str [120, 97, 0, 104, 0, 0, 0, 0, 0, 0, 0, 0, 10, 0, 0, 0, 0, 0, 0, 0, 3, 0, 0, 0, 0, 0, 0, 0, 1], I 6,
  .str [], .str [120, 97, 0, 104, 0, 0, 0, 0, 0, 0, 0, 0, 10, 0, 0, 0, 0, 0, 0, 0, 3, 0, 0, 0, 0, 0, 0, 0, 2], I 2, .str [], .str [120, 97, 0, 104, 0, 0, 0, 0, 0, 0, 0, 0, 12, 0,
  0, 0, 0, 0, 0, 0, 7, 0, 0, 0, 0, 0, 0, 0, 1], I 4, .str []])) N N))) N) N) N) (.node none (.node none (.node (some (.map [] 0)) N N) N) (.node none (.node none (.node none
  (.node none (.node none (.node (some (.cells 111 [I 3, I 1, I 0, .str [97], .str [104], I 10, I 0, .str [], I 3, I 2, I 1, .str [97], .str [104], I 10, I 0, .str []])) N N) N)
  N) N) N) N)))) (.node (some (.map [(.str [109], .agg [.str [2, 0, 5, 1, 2, 1, 0, 0, 0, 21, 0, 5, 3], I 13], 1), (.str [106, 49], .agg [.str [2, 0, 186, 17, 115, 0, 0, 0, 0, 0, 0,
   0, 3, 0, 0, 0, 0, 0, 0, 0, 2, 1, 10, 3, 2, 1, 10, 0, 1, 97, 1, 104, 0, 29, 120, 97, 0, 104, 0, 0, 0, 0, 0, 0, 0, 0, 10, 0, 0, 0, 0, 0, 0, 0, 3, 0, 0, 0, 0, 0, 0, 0, 2, 2, 0, 17,
   115, 0, 0, 0, 0, 0, 0, 0, 7, 0, 0, 0, 0, 0, 0, 0, 1, 3, 10, 7, 1, 0, 12, 0, 1, 97, 1, 104, 0, 29, 120, 97, 0, 104, 0, 0, 0, 0, 0, 0, 0, 0, 12, 0, 0, 0, 0, 0, 0, 0, 7, 0, 0, 0,
  0, 0, 0, 0, 1, 4, 0, 17, 115, 0, 0, 0, 0, 0, 0, 0, 3, 0, 0, 0, 0, 0, 0, 0, 1, 5, 10, 3, 1, 0, 10, 0, 1, 97, 1, 104, 0, 29, 120, 97, 0, 104, 0, 0, 0, 0, 0, 0, 0, 0, 10, 0, 0, 0,
  0, 0, 0, 0, 3, 0, 0, 0, 0, 0, 0, 0, 1, 6, 0, 91, 100, 8, 175, 3], I 194], 2)] 3)) (.node none (.node none (.node none N (.node none (.node none N (.node none (.node (some
  (.cells 254 [.slice 900 0 6 6 true])) N N) N)) N)) N) N) (.node none N (.node none N (.node none N (.node none N (.node none N (.node none (.node none (.node (some (.cells 76
  [.slice 1275 0 1 2 true, I 3, .bool true])) N N) N) N)))))))))
noncomputable def m23_4 : Tmps := (.node (some (.bool false)) (.node (some (.ptr 7 0)) (.node (some (.ptr 129 0)) (.node (some (.ptr 1053 0)) (.node none (.node (some (.agg [I 3, I 1, I 0, .str [97], .str [104], I
  10, I 0, .str []])) (.node (some (I 0)) N N) N) (.node (some (.ptr 77 0)) N N)) (.node (some (.tup [.ptr 7 0, .ptr 77 0])) (.node (some (I 3)) N N) (.node (some (.tup [.agg
  [.slice 1382 0 1 1 true, I 7, .bool false], I 0])) N N))) (.node (some (.ptr 1385 0)) (.node none (.node (some (.ptr 77 0)) N N) (.node (some (.tup [.agg [.slice 1382 0 1 1 true,
   I 7, .bool false], I 0])) N N)) (.node (some (.ptr 77 0)) (.node (some (.tup [.agg [I 3, .slice 1052 0 2 2 true], I 0])) N N) (.node (some (.ptr 77 0)) N N)))) (.node (some (I
  3)) (.node (some (.ptr 1278 0)) (.node none (.node (some (.agg [I 0, I 0, .slice 128 0 3 3 false])) N N) (.node (some (.agg [.slice 1275 0 1 2 true, I 3, .bool true])) N N))
  (.node (some (.ptr 7 0)) (.node (some (.tup [.agg [I 3, .slice 1052 0 2 2 true], I 0])) N N) (.node (some (I 0)) N N))) (.node (some (.slice 1491 0 1 1 true)) (.node none (.node
  (some (.tup [.agg [I 0, I 0, I 3], I 3, I 0])) N N) (.node (some (.ptr 1278 1)) N N)) (.node (some (.agg [I 3, I 2, I 1, .str [97], .str [104], I 10, I 0, .str []])) (.node
  (some (I 0)) N N) (.node (some (.tup [.slice 1491 0 1 1 true, I 0])) N N))))) (.node (some (.ptr 77 0)) (.node (some (.ptr 901 0)) (.node (some (I 0)) (.node none (.node (some
  (.slice 128 0 3 3 false)) N N) (.node (some (.tup [.agg [.slice 1275 0 1 2 true, I 3, .bool true], I 0])) N N)) (.node (some (.tup [.ptr 7 0, .ptr 77 0])) (.node (some (I 0)) N
  N) (.node (some (.agg [.slice 1382 0 1 1 true, I 7, .bool false])) N N))) (.node (some (I 0)) (.node none (.node (some (.agg [I 0, I 0, .slice 128 0 3 3 false])) N N) (.node
  (some (.ptr 77 0)) N N)) (.node (some (.bool false)) (.node (some (.agg [I 3, .slice 1052 0 2 2 true])) N N) (.node (some (.agg [.str [97], .str [104], I 11, I 12, I 5])) N
  N)))) (.node (some (I 0)) (.node (some (I 0)) (.node none (.node (some (.tup [.agg [I 0, I 0, I 3], I 3, I 0])) N N) (.node (some (I 0)) N N)) (.node (some (.ptr 77 0)) (.node
  (some (.ptr 77 0)) N N) (.node (some (.tup [.slice 1491 0 1 1 true, I 0])) N N))) (.node (some (I 0)) (.node none (.node (some (.agg [I 0, I 0, I 3])) N N) (.node (some (I 3)) N
  N)) (.node (some (.agg [I 7, I 1, I 0, .str [97], .str [104], I 12, I 0, .str []])) (.node (some (.tup [.agg [.slice 1275 0 1 2 true, I 3, .bool true], I 0])) N N) (.node (some
  (.slice 1491 0 1 1 true)) N N))))))
noncomputable def h23_4 : Heap := (.node none (.node (some (.ro 261 [.sym 1])) (.node none (.node (some (.cells 189 [I 1048576, I 0, .bool false, .map 6, .nilf, .nils])) N N) (.node none (.node none (.node none
  (.node (some (.cells 269 [.ptr 7 0, I 0, .bool false, I 1])) N N) N) (.node none (.node none N (.node none N (.node none N (.node none (.node (some (.cells 3 [I 7])) N N) N))))
  N)) (.node none N (.node none (.node (some (.cells 152 [.ptr 89 0])) N N) (.node none N (.node none N (.node none (.node none (.node (some (.cells 71 [I 3, .slice 1272 0 2 2
  true, I 7, .slice 1277 0 1 1 true])) N N) N) N))))))) (.node none (.node none N (.node none (.node none N (.node none N (.node none (.node none N (.node none (.node (some
  (.cells 76 [.slice 1382 0 1 1 true, I 7, .bool false])) N N) N)) N))) (.node none (.node (some (.cells 253 [.bool true, .slice 674 0 1 1 false])) N N) N))) (.node (some (.cells
  246 [.ptr 7 0, I 0, .bool false, .slice 12 0 1 1 false, I 1, I 2, I 13])) N (.node none (.node none (.node (some (.cells 58 [.ptr 7 0, .ptr 13 0, .ptr 67 0, .slice 91 0 1 1 true,
   .map 76, I 6])) N N) N) (.node none (.node none (.node none (.node none (.node none (.node (some (.cells 71 [I 3, .slice 1052 0 2 2 true])) N N) N) N) N) N) (.node none N
  (.node none N (.node none (.node none (.node (some (.cells 111 [I 7, I 1, I 0, .str [97], .str [104], I 12, I 0, .str []])) N N) N) N)))))))) (.node none (.node none (.node none
  N (.node none (.node none N (.node none N (.node none (.node none N (.node none (.node (some (.cells 111 [I 7, I 1, I 0, .str [97], .str [104], I 12, I 0, .str []])) N N) N))
  N))) (.node none N (.node none N (.node none N (.node none (.node none (.node (some (.cells 111 [I 3, I 1, I 0, .str [97], .str [104], I 10, I 0, .str [], I 3, I 2, I 1, .str
  [97], .str [104], I 10, I 0, .str []])) N N) N) N)))))) (.node (some (.cells 150 [.str [], .nils])) (.node none (.node none (.node none (.node none N (.node none N (.node (some
  (.cells 38 [.str [115, 0, 0, 0, 0, 0, 0, 0, 3, 0, 0, 0, 0, 0, 0, 0, 1], I 5, .str [3, 1, 0, 10, 0, 1, 97, 1, 104, 0], .str [115, 0, 0, 0, 0, 0, 0, 0, 3, 0, 0, 0, 0, 0, 0, 0, 2],
  I 1, .str [3, 2, 1, 10, 0, 1, 97, 1, 104, 0], .str [115, 0, 0, 0, 0, 0, 0, 0, 7, 0, 0, 0, 0, 0, 0, 0, 1], I 3, .str [7, 1, 0, 12, 0, 1, 97, 1, 104, 0], .str [120, 97, 0, 104, 0,
  0, 0, 0, 0, 0, 0, 0, 10, 0, 0, 0, 0, 0, 0, 0, 3, 0, 0, 0, 0, 0, 0, 0, 1], I 6, .str [], .str [120, 97, 0, 104, 0, 0, 0, 0, 0, 0, 0, 0, 10, 0, 0, 0, 0, 0, 0, 0, 3, 0, 0, 0, 0, 0,
  0, 0, 2], I 2, .str [], .str [120, 97, 0, 104, 0, 0, 0, 0, 0, 0, 0, 0, 12, 0, 0, 0, 0, 0, 0, 0, 7, 0, 0, 0, 0, 0, 0, 0, 1], I 4, .str []])) N N))) N) N) N) (.node none (.node
  none (.node (some (.map [] 0)) N N) N) (.node none (.node none (.node none (.node none (.node none (.node (some (.cells 111 [I 3, I 1, I 0, .str [97], .str [104], I 10, I 0,
  .str [], I 3, I 2, I 1, .str [97], .str [104], I 10, I 0, .str []])) N N) N) N) N) N) N)))) (.node (some (.map [(.str [109], .agg [.str [2, 0, 5, 1, 2, 1, 0, 0, 0, 21, 0, 5, 3],
  I 13], 1), (.str [106, 49], .agg [.str [2, 0, 186, 17, 115, 0, 0, 0, 0, 0, 0, 0, 3, 0, 0, 0, 0, 0, 0, 0, 2, 1, 10, 3, 2, 1, 10, 0, 1, 97, 1, 104, 0, 29, 120, 97, 0, 104, 0, 0, 0,
   0, 0, 0, 0, 0, 10, 0, 0, 0, 0, 0, 0, 0, 3, 0, 0, 0, 0, 0, 0, 0, 2, 2, 0, 17, 115, 0, 0, 0, 0, 0, 0, 0, 7, 0, 0, 0, 0, 0, 0, 0, 1, 3, 10, 7, 1, 0, 12, 0, 1, 97, 1, 104, 0, 29,
  120, 97, 0, 104, 0, 0, 0, 0, 0, 0, 0, 0, 12, 0, 0, 0, 0, 0, 0, 0, 7, 0, 0, 0, 0, 0, 0, 0, 1, 4, 0, 17, 115, 0, 0, 0, 0, 0, 0, 0, 3, 0, 0, 0, 0, 0, 0, 0, 1, 5, 10, 3, 1, 0, 10, 0,
   1, 97, 1, 104, 0, 29, 120, 97, 0, 104, 0, 0, 0, 0, 0, 0, 0, 0, 10, 0, 0, 0, 0, 0, 0, 0, 3, 0, 0, 0, 0, 0, 0, 0, 1, 6, 0, 91, 100, 8, 175, 3], I 194], 2)] 3)) (.node none (.node
  none (.node none N (.node none (.node none N (.node none (.node (some (.cells 254 [.slice 900 0 6 6 true])) N N) N)) N)) N) N) (.node none (.node none (.node none N (.node none
  N (.node none (.node none N (.node none (.node (some (.cells 71 [I 7, .slice 1384 0 1 1 true])) N N) N)) N))) N) (.node none N (.node none N (.node none N (.node none N (.node
  none (.node none (.node (some (.cells 76 [.slice 1275 0 1 2 true, I 3, .bool true])) N N) N) N)))))))))
noncomputable def m23_5 : Tmps := (.node (some (.bool false)) (.node (some (.ptr 7 0)) (.node (some (.ptr 129 0)) (.node (some (.ptr 1053 0)) (.node (some (.slice 1731 0 1 3 true)) (.node (some (.agg [I 3, I 1, I
  0, .str [97], .str [104], I 10, I 0, .str []])) (.node (some (I 0)) N N) N) (.node (some (.ptr 77 0)) N N)) (.node (some (.tup [.ptr 7 0, .ptr 77 0])) (.node (some (I 3)) (.node
  (some (.ptr 77 0)) N N) N) (.node (some (.tup [.agg [.slice 1382 0 1 1 true, I 7, .bool false], I 0])) N N))) (.node (some (.ptr 1385 0)) (.node none (.node (some (.ptr 77 0))
  (.node (some (.tup [.slice 1731 0 1 3 true, I 0])) N N) N) (.node (some (.tup [.agg [.slice 1382 0 1 1 true, I 7, .bool false], I 0])) N N)) (.node (some (.ptr 77 0)) (.node
  (some (.tup [.agg [I 3, .slice 1052 0 2 2 true], I 0])) N N) (.node (some (.ptr 77 0)) N N)))) (.node (some (I 3)) (.node (some (.ptr 1278 0)) (.node (some (.ptr 1929 0)) (.node
  (some (.agg [I 0, I 0, .slice 128 0 3 3 false])) (.node (some (.ptr 77 0)) N N) N) (.node (some (.agg [.slice 1275 0 1 2 true, I 3, .bool true])) N N)) (.node (some (.ptr 7 0))
  (.node (some (.tup [.agg [I 3, .slice 1052 0 2 2 true], I 0])) (.node (some (.agg [.slice 1927 0 1 1 true, .nils])) N N) N) (.node (some (I 0)) N N))) (.node (some (.slice 1491
  0 1 1 true)) (.node none (.node (some (.tup [.agg [I 0, I 0, I 3], I 3, I 0])) (.node (some (I 0)) N N) N) (.node (some (.ptr 1278 1)) N N)) (.node (some (.agg [I 3, I 2, I 1,
  .str [97], .str [104], I 10, I 0, .str []])) (.node (some (I 0)) N N) (.node (some (.tup [.slice 1491 0 1 1 true, I 0])) N N))))) (.node (some (.ptr 77 0)) (.node (some (.ptr
  901 0)) (.node (some (I 0)) (.node (some (I 0)) (.node (some (.slice 128 0 3 3 false)) (.node (some (.tup [.slice 1731 0 1 3 true, I 0])) N N) N) (.node (some (.tup [.agg
  [.slice 1275 0 1 2 true, I 3, .bool true], I 0])) N N)) (.node (some (.tup [.ptr 7 0, .ptr 77 0])) (.node (some (I 0)) (.node (some (.tup [.agg [.slice 1927 0 1 1 true, .nils],
  I 0])) N N) N) (.node (some (.agg [.slice 1382 0 1 1 true, I 7, .bool false])) N N))) (.node (some (I 0)) (.node none (.node (some (.agg [I 0, I 0, .slice 128 0 3 3 false]))
  (.node (some (.slice 1731 0 1 3 true)) N N) N) (.node (some (.ptr 77 0)) N N)) (.node (some (.bool false)) (.node (some (.agg [I 3, .slice 1052 0 2 2 true])) N N) (.node (some
  (.agg [.str [97], .str [104], I 11, I 12, I 5])) N N)))) (.node (some (I 0)) (.node (some (I 0)) (.node (some (I 0)) (.node (some (.tup [.agg [I 0, I 0, I 3], I 3, I 0])) (.node
  (some (.agg [.str [97], .str [104], I 0, I 12, I 1])) N N) N) (.node (some (I 0)) N N)) (.node (some (.ptr 77 0)) (.node (some (.ptr 77 0)) (.node (some (I 0)) N N) N) (.node
  (some (.tup [.slice 1491 0 1 1 true, I 0])) N N))) (.node (some (I 0)) (.node none (.node (some (.agg [I 0, I 0, I 3])) (.node (some (.tup [.agg [.slice 1927 0 1 1 true, .nils],
  I 0])) N N) N) (.node (some (I 3)) N N)) (.node (some (.agg [I 7, I 1, I 0, .str [97], .str [104], I 12, I 0, .str []])) (.node (some (.tup [.agg [.slice 1275 0 1 2 true, I 3,
  .bool true], I 0])) N N) (.node (some (.slice 1491 0 1 1 true)) N N))))))
noncomputable def h23_5 : Heap := (.node none (.node (some (.ro 261 [.sym 1])) (.node none (.node (some (.cells 189 [I 1048576, I 0, .bool false, .map 6, .nilf, .nils])) N (.node none (.node none (.node none
  (.node none N (.node none N (.node none N (.node (some (.cells 195 [I 3, I 1, I 0, .str [97], .str [104], I 10, I 0, .str [], .slice 1925 0 1 1 true])) N N)))) N) N) N)) (.node
  none (.node none (.node none (.node (some (.cells 269 [.ptr 7 0, I 0, .bool false, I 1])) N (.node none N (.node none (.node none N (.node (some (.cells 3 [I 3, I 7, I 0])) N
  N)) N))) N) (.node none (.node none N (.node none N (.node none N (.node none (.node (some (.cells 3 [I 7])) N N) N)))) N)) (.node none N (.node none (.node (some (.cells 152
  [.ptr 89 0])) N N) (.node none N (.node none N (.node none (.node none (.node (some (.cells 71 [I 3, .slice 1272 0 2 2 true, I 7, .slice 1277 0 1 1 true])) N N) N) N)))))))
  (.node none (.node none N (.node none (.node none (.node none (.node none N (.node none N (.node none N (.node (some (.cells 84 [.slice 1927 0 1 1 true, .nils])) N N)))) N)
  (.node none N (.node none (.node none N (.node none (.node (some (.cells 76 [.slice 1382 0 1 1 true, I 7, .bool false])) N N) N)) N))) (.node none (.node (some (.cells 253
  [.bool true, .slice 674 0 1 1 false])) N N) N))) (.node (some (.cells 246 [.ptr 7 0, I 0, .bool false, .slice 12 0 1 1 false, I 1, I 2, I 13])) (.node none (.node none (.node
  none (.node none N (.node none N (.node none N (.node (some (.cells 195 [I 3, I 2, I 1, .str [97], .str [104], I 10, I 0, .str [], .nils])) N N)))) N) N) N) (.node none (.node
  none (.node (some (.cells 58 [.ptr 7 0, .ptr 13 0, .ptr 67 0, .slice 91 0 1 1 true, .map 76, I 6])) N N) N) (.node none (.node none (.node none (.node none (.node none (.node
  (some (.cells 71 [I 3, .slice 1052 0 2 2 true])) N N) N) N) N) N) (.node none N (.node none N (.node none (.node none (.node (some (.cells 111 [I 7, I 1, I 0, .str [97], .str
  [104], I 12, I 0, .str []])) N N) N) N)))))))) (.node none (.node none (.node none N (.node none (.node none N (.node none N (.node none (.node none N (.node none (.node (some
  (.cells 111 [I 7, I 1, I 0, .str [97], .str [104], I 12, I 0, .str []])) N N) N)) N))) (.node none N (.node none N (.node none N (.node none (.node none (.node (some (.cells 111
  [I 3, I 1, I 0, .str [97], .str [104], I 10, I 0, .str [], I 3, I 2, I 1, .str [97], .str [104], I 10, I 0, .str []])) N N) N) N)))))) (.node (some (.cells 150 [.str [],
  .nils])) (.node none (.node none (.node none (.node none N (.node none N (.node (some (.cells 38 [.str [115, 0, 0, 0, 0, 0, 0, 0, 3, 0, 0, 0, 0, 0, 0, 0, 1], I 5, .str [3, 1, 0,
  10, 0, 1, 97, 1, 104, 0], .str [115, 0, 0, 0, 0, 0, 0, 0, 3, 0, 0, 0, 0, 0, 0, 0, 2], I 1, .str [3, 2, 1, 10, 0, 1, 97, 1, 104, 0], .str [115, 0, 0, 0, 0, 0, 0, 0, 7, 0, 0, 0, 0,
   0, 0, 0, 1], I 3, .str [7, 1, 0, 12, 0, 1, 97, 1, 104, 0], .str [120, 97, 0, 104, 0, 0, 0, 0, 0, 0, 0, 0, 10, 0, 0, 0, 0, 0, 0, 0, 3, 0, 0, 0, 0, 0, 0, 0, 1], I 6, .str [],
  .str [120, 97, 0, 104, 0, 0, 0, 0, 0, 0, 0, 0, 10, 0, 0, 0, 0, 0, 0, 0, 3, 0, 0, 0, 0, 0, 0, 0, 2], I 2, .str [], .str [120, 97, 0, 104, 0, 0, 0, 0, 0, 0, 0, 0, 12, 0, 0, 0, 0,
  0, 0, 0, 7, 0, 0, 0, 0, 0, 0, 0, 1], I 4, .str []])) N N))) N) N) N) (.node none (.node none (.node (some (.map [] 0)) N N) N) (.node none (.node none (.node none (.node none
  (.node none (.node (some (.cells 111 [I 3, I 1, I 0, .str [97], .str [104], I 10, I 0, .str [], I 3, I 2, I 1, .str [97], .str [104], I 10, I 0, .str []])) N N) N) N) N) N)
  N)))) (.node (some (.map [(.str [109], .agg [.str [2, 0, 5, 1, 2, 1, 0, 0, 0, 21, 0, 5, 3], I 13], 1), (.str [106, 49], .agg [.str [2, 0, 186, 17, 115, 0, 0, 0, 0, 0, 0, 0, 3, 0,
   0, 0, 0, 0, 0, 0, 2, 1, 10, 3, 2, 1, 10, 0, 1, 97, 1, 104, 0, 29, 120, 97, 0, 104, 0, 0, 0, 0, 0, 0, 0, 0, 10, 0, 0, 0, 0, 0, 0, 0, 3, 0, 0, 0, 0, 0, 0, 0, 2, 2, 0, 17, 115, 0,
  0, 0, 0, 0, 0, 0, 7, 0, 0, 0, 0, 0, 0, 0, 1, 3, 10, 7, 1, 0, 12, 0, 1, 97, 1, 104, 0, 29, 120, 97, 0, 104, 0, 0, 0, 0, 0, 0, 0, 0, 12, 0, 0, 0, 0, 0, 0, 0, 7, 0, 0, 0, 0, 0, 0,
  0, 1, 4, 0, 17, 115, 0, 0, 0, 0, 0, 0, 0, 3, 0, 0, 0, 0, 0, 0, 0, 1, 5, 10, 3, 1, 0, 10, 0, 1, 97, 1, 104, 0, 29, 120, 97, 0, 104, 0, 0, 0, 0, 0, 0, 0, 0, 10, 0, 0, 0, 0, 0, 0,
  0, 3, 0, 0, 0, 0, 0, 0, 0, 1, 6, 0, 91, 100, 8, 175, 3], I 194], 2)] 3)) (.node none (.node none (.node none N (.node none (.node none N (.node none (.node (some (.cells 254
  [.slice 900 0 6 6 true])) N N) N)) N)) N) N) (.node none (.node none (.node none N (.node none N (.node none (.node none N (.node none (.node (some (.cells 71 [I 7, .slice 1384
  0 1 1 true])) N N) N)) N))) N) (.node none N (.node none N (.node none N (.node none N (.node none (.node none (.node (some (.cells 76 [.slice 1275 0 1 2 true, I 3, .bool
  true])) N N) N) N)))))))))
noncomputable def m23_6 : Tmps := (.node (some (.bool true)) (.node (some (.ptr 7 0)) (.node (some (.ptr 129 0)) (.node (some (.ptr 1053 0)) (.node (some (.slice 1731 0 1 3 true)) (.node (some (.agg [I 3, I 1, I 0,
   .str [97], .str [104], I 10, I 0, .str []])) (.node (some (I 0)) (.node (some (.bool true)) N N) N) (.node (some (.bool true)) (.node (some (.bool true)) N N) N)) (.node (some
  (.ptr 77 0)) (.node (some (I 0)) (.node (some (I 0)) N N) N) (.node (some (.bool true)) (.node (some (.slice 1925 0 1 1 true)) N N) N))) (.node (some (.tup [.ptr 7 0, .ptr 77
  0])) (.node (some (I 3)) (.node (some (.ptr 77 0)) (.node (some (.bool true)) N N) N) (.node (some (.slice 1052 0 2 2 true)) (.node (some (I 1)) N N) N)) (.node (some (.tup
  [.agg [.slice 1382 0 1 1 true, I 7, .bool false], I 0])) (.node (some (.bool true)) (.node (some (.bool true)) N N) N) (.node (some (.ptr 1278 2)) (.node (some (.bool true)) N
  N) N)))) (.node (some (.ptr 1385 0)) (.node (some (.ptr 2077 0)) (.node (some (.ptr 77 0)) (.node (some (.tup [.slice 1731 0 1 3 true, I 0])) (.node (some (.bool true)) N N) N)
  (.node (some (.bool true)) (.node (some (.bool true)) N N) N)) (.node (some (.tup [.agg [.slice 1382 0 1 1 true, I 7, .bool false], I 0])) (.node (some (.agg [I 0, .nils]))
  (.node (some (.slice 1491 0 1 1 true)) N N) N) (.node (some (I 3)) (.node (some (.bool true)) N N) N))) (.node (some (.ptr 77 0)) (.node (some (.tup [.agg [I 3, .slice 1052 0 2
  2 true], I 0])) (.node (some (.tup [.agg [I 3, .nils], I 0])) (.node (some (.bool false)) N N) N) (.node (some (.bool true)) (.node (some (.ptr 1929 0)) N N) N)) (.node (some
  (.ptr 77 0)) (.node (some (.bool true)) (.node (some (.bool true)) N N) N) (.node (some (.ptr 1278 0)) (.node (some (.bool true)) N N) N))))) (.node (some (I 3)) (.node (some
  (.ptr 1278 0)) (.node (some (.ptr 1929 0)) (.node (some (.agg [I 0, I 0, .slice 128 0 3 3 false])) (.node (some (.ptr 77 0)) (.node (some (I 0)) N N) N) (.node (some (.slice
  1052 0 2 2 true)) (.node (some (I 0)) N N) N)) (.node (some (.agg [.slice 1275 0 1 2 true, I 3, .bool true])) (.node (some (.ptr 77 0)) (.node (some (.bool true)) N N) N) (.node
  (some (.bool true)) (.node (some (.bool true)) N N) N))) (.node (some (.ptr 7 0)) (.node (some (.tup [.agg [I 3, .slice 1052 0 2 2 true], I 0])) (.node (some (.agg [.slice 1927
  0 1 1 true, .nils])) (.node (some (.bool true)) N N) N) (.node (some (.ptr 1052 1)) (.node (some (.bool true)) N N) N)) (.node (some (I 0)) (.node (some (.bool true)) (.node
  (some (.bool true)) N N) N) (.node (some (.bool true)) (.node (some (.bool true)) N N) N)))) (.node (some (.slice 1491 0 1 1 true)) (.node (some (.ptr 2079 0)) (.node (some
  (.tup [.agg [I 0, I 0, I 3], I 3, I 0])) (.node (some (I 0)) (.node (some (.ptr 1385 1)) N N) N) (.node (some (.bool true)) (.node (some (.ptr 1929 0)) N N) N)) (.node (some
  (.ptr 1278 1)) (.node (some (I 3)) (.node (some (.bool true)) N N) N) (.node (some (.bool true)) (.node (some (.nils)) N N) N))) (.node (some (.agg [I 3, I 2, I 1, .str [97],
  .str [104], I 10, I 0, .str []])) (.node (some (I 0)) (.node (some (.tup [.agg [I 3, .nils], I 0])) (.node (some (.bool true)) N N) N) (.node (some (.bool true)) (.node (some
  (.ptr 1927 0)) N N) N)) (.node (some (.tup [.slice 1491 0 1 1 true, I 0])) (.node (some (.bool true)) (.node (some (.slice 2081 0 1 1 false)) N N) N) (.node (some (I 1)) N
  N)))))) (.node (some (.ptr 77 0)) (.node (some (.ptr 901 0)) (.node (some (I 0)) (.node (some (I 0)) (.node (some (.slice 128 0 3 3 false)) (.node (some (.tup [.slice 1731 0 1 3
  true, I 0])) (.node (some (.bool true)) N N) N) (.node (some (.ptr 1053 1)) (.node (some (.bool true)) N N) N)) (.node (some (.tup [.agg [.slice 1275 0 1 2 true, I 3, .bool
  true], I 0])) (.node (some (.tup [.agg [I 0, .nils], I 2])) (.node (some (.bool true)) N N) N) (.node (some (.bool true)) (.node (some (I 1)) N N) N))) (.node (some (.tup [.ptr
  7 0, .ptr 77 0])) (.node (some (I 0)) (.node (some (.tup [.agg [.slice 1927 0 1 1 true, .nils], I 0])) (.node (some (.bool true)) N N) N) (.node (some (.ptr 1052 0)) (.node
  (some (.bool true)) N N) N)) (.node (some (.agg [.slice 1382 0 1 1 true, I 7, .bool false])) (.node (some (I 0)) (.node (some (I 0)) N N) N) (.node (some (.bool true)) (.node
  (some (.bool true)) N N) N)))) (.node (some (I 0)) (.node (some (I 0)) (.node (some (.agg [I 0, I 0, .slice 128 0 3 3 false])) (.node (some (.slice 1731 0 1 3 true)) (.node
  (some (.bool true)) N N) N) (.node (some (.bool true)) (.node (some (.bool true)) N N) N)) (.node (some (.ptr 77 0)) (.node (some (I 2)) (.node (some (.slice 2080 0 1 1 false))
  N N) N) (.node (some (.bool true)) (.node (some (.ptr 2077 1)) N N) N))) (.node (some (.bool false)) (.node (some (.agg [I 3, .slice 1052 0 2 2 true])) (.node (some (.ptr 77 0))
  (.node (some (.bool true)) N N) N) (.node (some (.bool true)) (.node (some (.slice 1927 0 1 1 true)) N N) N)) (.node (some (.agg [.str [97], .str [104], I 11, I 12, I 5]))
  (.node (some (I 0)) (.node (some (.slice 1731 0 1 3 true)) N N) N) (.node (some (.slice 1275 0 1 2 true)) (.node (some (.bool true)) N N) N))))) (.node (some (I 0)) (.node (some
  (I 0)) (.node (some (I 0)) (.node (some (.tup [.agg [I 0, I 0, I 3], I 3, I 0])) (.node (some (.agg [.str [97], .str [104], I 0, I 12, I 1])) (.node (some (.bool true)) N N) N)
  (.node (some (I 2)) (.node (some (.bool true)) N N) N)) (.node (some (I 0)) (.node (some (.tup [.agg [I 0, .nils], I 2])) (.node (some (.bool true)) N N) N) (.node (some (.ptr
  1278 1)) (.node (some (.bool true)) N N) N))) (.node (some (.ptr 77 0)) (.node (some (.ptr 77 0)) (.node (some (I 0)) (.node (some (.ptr 1385 2)) N N) N) (.node (some (I 1))
  (.node (some (.bool true)) N N) N)) (.node (some (.tup [.slice 1491 0 1 1 true, I 0])) (.node (some (.bool true)) (.node (some (.bool true)) N N) N) (.node (some (.bool true))
  (.node (some (I 2)) N N) N)))) (.node (some (I 0)) (.node (some (I 2)) (.node (some (.agg [I 0, I 0, I 3])) (.node (some (.tup [.agg [.slice 1927 0 1 1 true, .nils], I 0]))
  (.node (some (I 7)) N N) N) (.node (some (.ptr 1053 1)) (.node (some (.slice 1927 0 1 1 true)) N N) N)) (.node (some (I 3)) (.node (some (.bool true)) (.node (some (.bool true))
  N N) N) (.node (some (.bool true)) (.node (some (I 0)) N N) N))) (.node (some (.agg [I 7, I 1, I 0, .str [97], .str [104], I 12, I 0, .str []])) (.node (some (.tup [.agg [.slice
  1275 0 1 2 true, I 3, .bool true], I 0])) (.node (some (.agg [I 3, .nils])) (.node (some (.bool true)) N N) N) (.node (some (I 0)) (.node (some (.ptr 1927 8)) N N) N)) (.node
  (some (.slice 1491 0 1 1 true)) (.node (some (.bool true)) (.node (some (.bool true)) N N) N) (.node (some (.bool true)) N N)))))))
noncomputable def h23_6 : Heap := (.node none (.node (some (.ro 261 [.sym 1])) N N) N)
end Go.Proofs.YthkcicilmhpfjaaGreatDoor

/- The run of 23: piece 1. -/
namespace Go.Proofs.YthkcicilmhpfjaaGreatDoor
open Go.Eng

set_option maxRecDepth 1000000 in
theorem r23_1 : cdEq (codeK Tryz.prog smAll 100000 189 [1, 6, 7, 12, 13, 67, 76, 77, 89, 91, 128, 129] ((p23.drop 0).take 5) m23_0 [] h23_0 6) (.mk .norm m23_1 [] h23_1 130) = true := by decide +kernel
end Go.Proofs.YthkcicilmhpfjaaGreatDoor

/- The run of 23: piece 2. -/
namespace Go.Proofs.YthkcicilmhpfjaaGreatDoor
open Go.Eng

set_option maxRecDepth 1000000 in
theorem r23_2 : cdEq (codeK Tryz.prog smAll 100000 189 [1, 6, 7, 12, 13, 67, 76, 77, 89, 91, 674, 900] ((p23.drop 5).take 1) m23_1 [] h23_1 130) (.mk .norm m23_2 [] h23_2 902) = true := by decide +kernel
end Go.Proofs.YthkcicilmhpfjaaGreatDoor

/- The run of 23: piece 3. -/
namespace Go.Proofs.YthkcicilmhpfjaaGreatDoor
open Go.Eng

set_option maxRecDepth 1000000 in
theorem r23_3 : cdEq (codeK Tryz.prog smAll 100000 189 [1, 6, 7, 12, 13, 67, 76, 77, 89, 91, 674, 900, 1052, 1053, 1272, 1275, 1277, 1278] ((p23.drop 6).take 2) m23_2 [] h23_2 902) (.mk .norm m23_3 [] h23_3 1279) = true := by decide +kernel
end Go.Proofs.YthkcicilmhpfjaaGreatDoor

/- The run of 23: piece 4. -/
namespace Go.Proofs.YthkcicilmhpfjaaGreatDoor
open Go.Eng

set_option maxRecDepth 1000000 in
theorem r23_4 : cdEq (codeK Tryz.prog smAll 100000 189 [1, 6, 7, 12, 13, 67, 76, 77, 89, 91, 674, 900, 1052, 1053, 1272, 1275, 1277, 1278, 1382, 1384, 1385, 1491] ((p23.drop 8).take 2) m23_3 [] h23_3 1279) (.mk .norm m23_4 [] h23_4 1492) = true := by decide +kernel
end Go.Proofs.YthkcicilmhpfjaaGreatDoor

/- The run of 23: piece 5. -/
namespace Go.Proofs.YthkcicilmhpfjaaGreatDoor
open Go.Eng

set_option maxRecDepth 1000000 in
theorem r23_5 : cdEq (codeK Tryz.prog smAll 100000 189 [1, 6, 7, 12, 13, 67, 76, 77, 89, 91, 674, 900, 1052, 1053, 1272, 1275, 1277, 1278, 1382, 1384, 1385, 1491, 1731, 1925, 1927, 1929] ((p23.drop 10).take 2) m23_4 [] h23_4 1492) (.mk .norm m23_5 [] h23_5 1930) = true := by decide +kernel
end Go.Proofs.YthkcicilmhpfjaaGreatDoor

/- The run of 23: piece 6. -/
namespace Go.Proofs.YthkcicilmhpfjaaGreatDoor
open Go.Eng

set_option maxRecDepth 1000000 in
theorem r23_6 : cdEq (codeK Tryz.prog smAll 100000 189 [1] (p23.drop 12) m23_5 [] h23_5 1930) (.mk .ret m23_6 [] h23_6 2082) = true := by decide +kernel
end Go.Proofs.YthkcicilmhpfjaaGreatDoor

/- The run of 23, whole: it returns true, and nothing that was there has turned. -/
namespace Go.Proofs.YthkcicilmhpfjaaGreatDoor
open Go.Eng Go.RowKit

set_option maxRecDepth 1000000 in
theorem lives23_any {η : Env} {w : World} (h0 : RoHeap Tryz.prog η h23_0 w) : Calls Tryz.prog 29 #[] w fun e w' => e = .returned (.bool true) ∧ Eng.Kept (fun _ => False) w w' := by
  have hk : ∀ n o, h23_0.get n = some o → ∃ t cs, h23_6.get n = some (.ro t cs) := fun n o hn => by
    have hb := ro_names (h0 n o hn).1 hn (by decide +kernel : roSame Tryz.prog.globals.size h23_0 h23_6 = true)
    exact hb
  refine calls_of_wp Tryz.func29 (c := _) rfl (wp_flat (w := w) ?_)
  have hp : flat _ [] = p23 := rfl
  rw [hp]
  have s0 := start_ok h0
  rw [show Tryz.prog.globals.size = 6 by kernel_rfl] at s0
  rw [show p23 = p23.drop 0 by simp]
  refine piece (l := p23) mixed noGo (smAll_ok (η := η)) (by decide) r23_1 s0 noArgs rfl fun s1 a1 x1 d1 t1 w1 => ?_
  refine piece (l := p23) mixed noGo (smAll_ok (η := η)) (by decide) r23_2 w1.rel t1 d1 fun s2 a2 x2 d2 t2 w2 => ?_
  refine piece (l := p23) mixed noGo (smAll_ok (η := η)) (by decide) r23_3 w2.rel t2 d2 fun s3 a3 x3 d3 t3 w3 => ?_
  refine piece (l := p23) mixed noGo (smAll_ok (η := η)) (by decide) r23_4 w3.rel t3 d3 fun s4 a4 x4 d4 t4 w4 => ?_
  refine piece (l := p23) mixed noGo (smAll_ok (η := η)) (by decide) r23_5 w4.rel t4 d4 fun s5 a5 x5 d5 t5 w5 => ?_
  refine last_piece (l := p23) mixed noGo (smAll_ok (η := η)) (by decide) r23_6 w5.rel t5 d5 (v := .bool true) (by rfl) fun s u x hu W => ?_
  rw [conc_bool] at hu
  subst hu
  exact ⟨rfl, end_ok h0 (by rw [show Tryz.prog.globals.size = 6 by kernel_rfl]; exact (((((w1.trans w2).trans w3).trans w4).trans w5).trans W)) hk⟩
end Go.Proofs.YthkcicilmhpfjaaGreatDoor

/- DepotNone: the parts that look at numbers and names, as summaries. -/
namespace Go.Proofs.YthkcicilmhpfjaaGreatDoor
open Go.RowKit Go.Eng

theorem find_nil {sv ho : ByteArray} {f t lim : Int} (hs : sv.size ≤ 9223372036854775807) (hh : ho.size ≤ 9223372036854775807) (w : World) :
    Calls Tryz.prog 32 #[.pointer none, .agg #[.string sv, .string ho, .int .i64 f, .int .i64 t, .int .i64 lim], .int .i64 0] w fun e w' => e = .returned (.tuple #[.slice none 0 0, .int .i64 (findE sv ho f t lim)]) ∧ Kept (fun _ => False) w w' := by
  cases h1 : nameB sv with
  | false =>
    have : findE sv ho f t lim = 2 := by simp [findE, findB, h1]
    rw [this]; exact find_bad1 hs h1 w
  | true =>
    cases h2 : nameB ho with
    | false =>
      have : findE sv ho f t lim = 2 := by simp [findE, findB, h1, h2]
      rw [this]; exact find_bad2 hs hh h1 h2 w
    | true =>
      by_cases h3 : lim < 1
      · have : findE sv ho f t lim = 2 := by simp [findE, findB]; intros; omega
        rw [this]; exact find_bad3 hs hh h1 h2 h3 w
      by_cases h4 : 64 < lim
      · have : findE sv ho f t lim = 2 := by simp [findE, findB]; intros; omega
        rw [this]; exact find_bad4 hs hh h1 h2 h3 h4 w
      by_cases h5 : f < 0
      · have : findE sv ho f t lim = 2 := by simp [findE, findB]; intros; omega
        rw [this]; exact find_bad5 hs hh h1 h2 h3 h4 h5 w
      by_cases h6 : 1073741824 < t
      · have : findE sv ho f t lim = 2 := by simp [findE, findB]; intros; omega
        rw [this]; exact find_bad6 hs hh h1 h2 h3 h4 h5 h6 w
      have : findE sv ho f t lim = 1 := by
        have e : findB sv ho f t lim = true := by simp [findB, h1, h2]; omega
        simp [findE, e]
      rw [this]
      by_cases h7 : f ≤ t
      · exact find_good1 hs hh h1 h2 h3 h4 h5 h6 h7 w
      · exact find_good2 hs hh h1 h2 h3 h4 h5 h6 h7 w

structure Ask where
  tr : Int
  af : Int
  li : Int
  sv : ByteArray
  ho : ByteArray
  fr : Int
  ti : Int
  ql : Int
  la : Int
def Ask.cells (m : Ask) : List Value := [.int .i64 m.tr, .int .i64 m.af, .int .i64 m.li, .string m.sv, .string m.ho, .int .i64 m.fr, .int .i64 m.ti, .int .i64 m.ql, .int .u8 m.la]
def beyQ (m : Ask) : Bool := decide ((100 : Int) < (m.sv.size : Int)) || decide ((100 : Int) < (m.ho.size : Int))
set_option maxHeartbeats 1000000 in
set_option maxRecDepth 100000 in
theorem beyond28 (m : Ask) (w : World) : Calls Tryz.prog 28 #[.agg m.cells.toArray] w fun e w' => e = .returned (.bool (beyQ m)) ∧ Kept (fun _ => False) w w' := by
  unfold beyQ Ask.cells
  by_cases h1 : (100 : Int) < (m.sv.size : Int)
  · go_enter Tryz.func28, Tryz.ntmps28
    go_wp2
    go_ret
    exact ⟨by simp [h1], (Kept.refl _ _).alloc _⟩
  · by_cases h2 : (100 : Int) < (m.ho.size : Int)
    · go_enter Tryz.func28, Tryz.ntmps28
      go_wp2
      go_ret
      exact ⟨by simp [h2], (Kept.refl _ _).alloc _⟩
    · go_enter Tryz.func28, Tryz.ntmps28
      go_wp2
      go_ret
      exact ⟨by simp [h1, h2], (Kept.refl _ _).alloc _⟩
end Go.Proofs.YthkcicilmhpfjaaGreatDoor

/- DepotNone of any question. -/
namespace Go.Proofs.YthkcicilmhpfjaaGreatDoor
open Go.RowKit Go.Eng

noncomputable def qAV : List AV := [.sym 2, .sym 3, .sym 4, .sym 5, .sym 6, .sym 7, .sym 8, .sym 9, .sym 10]
noncomputable def zAV : List AV := [.sym 5, .sym 6, .sym 7, .sym 8, .sym 9]
noncomputable def beyQF (b : Bool) (args : List AV) (h : Heap) (c : Nat) : Option CRes := match args with
  | [.agg l] => bif avsEq l qAV then some (.mk (.bool b) h c) else none
  | _ => none
noncomputable def getF (e : Nat) (args : List AV) (h : Heap) (c : Nat) : Option CRes := bif avsEq args [.nilp, .sym 2, I 0] then some (.mk (.tup [.agg [I 0, .nils], I e]) h c) else callE Tryz.prog smAll 100000 (.fn 30) args h c
noncomputable def findF (e : Nat) (args : List AV) (h : Heap) (c : Nat) : Option CRes := bif avsEq args [.nilp, .agg zAV, I 0] then some (.mk (.tup [.nils, I e]) h c) else callE Tryz.prog smAll 100000 (.fn 32) args h c
noncomputable def exDep (b : Bool) (e1 e2 : Nat) : Nat → Option (List AV → Heap → Nat → Option CRes) := fun n => bif Nat.beq n 28 then some (beyQF b) else bif Nat.beq n 30 then some (getF e1) else bif Nat.beq n 32 then some (findF e2) else bif Nat.beq n 29 then some livesS else none

set_option maxRecDepth 1000000 in
theorem depT : isRes 6 hG (.bool true) (callE Tryz.prog (smMore (exDep true 1 1)) 100000 (.fn 5) [.agg qAV] hG 6) = true := by decide +kernel
set_option maxRecDepth 1000000 in
theorem dep11 : isRes 6 hG (.bool true) (callE Tryz.prog (smMore (exDep false 1 1)) 100000 (.fn 5) [.agg qAV] hG 6) = true := by decide +kernel
set_option maxRecDepth 1000000 in
theorem dep12 : isRes 6 hG (.bool true) (callE Tryz.prog (smMore (exDep false 1 2)) 100000 (.fn 5) [.agg qAV] hG 6) = true := by decide +kernel
set_option maxRecDepth 1000000 in
theorem dep21 : isRes 6 hG (.bool true) (callE Tryz.prog (smMore (exDep false 2 1)) 100000 (.fn 5) [.agg qAV] hG 6) = true := by decide +kernel
set_option maxRecDepth 1000000 in
theorem dep22 : isRes 6 hG (.bool true) (callE Tryz.prog (smMore (exDep false 2 2)) 100000 (.fn 5) [.agg qAV] hG 6) = true := by decide +kernel
set_option maxRecDepth 1000000 in
theorem depT12 : isRes 6 hG (.bool true) (callE Tryz.prog (smMore (exDep true 1 2)) 100000 (.fn 5) [.agg qAV] hG 6) = true := by decide +kernel
set_option maxRecDepth 1000000 in
theorem depT21 : isRes 6 hG (.bool true) (callE Tryz.prog (smMore (exDep true 2 1)) 100000 (.fn 5) [.agg qAV] hG 6) = true := by decide +kernel
set_option maxRecDepth 1000000 in
theorem depT22 : isRes 6 hG (.bool true) (callE Tryz.prog (smMore (exDep true 2 2)) 100000 (.fn 5) [.agg qAV] hG 6) = true := by decide +kernel
end Go.Proofs.YthkcicilmhpfjaaGreatDoor

/- DepotNone of any question: the summaries are right. -/
namespace Go.Proofs.YthkcicilmhpfjaaGreatDoor
open Go.RowKit Go.Eng

theorem ek {w w' : World} (K : Kept (fun _ => False) w w') : Eng.Kept (fun _ => False) w w' := ⟨K.os, K.tape, K.output, K.size, K.block⟩

theorem beyQF_ok {η : Env} {m : Ask} {b : Bool} (hx : ∀ σ, concs σ η qAV = some m.cells) (hb : beyQ m = b) {args : List AV} {h : Heap} {c : Nat} {v : AV} {h' : Heap} {c' : Nat} (he : beyQF b args h c = some (.mk v h' c')) {σ : Sig} {w : World} {avs : List Value} (H : HR Tryz.prog σ η h c w) (ha : concs σ η args = some avs) : Calls Tryz.prog 28 avs.toArray w (Done Tryz.prog η σ h c w v h' c') := by
  unfold beyQF at he
  split at he
  · rename_i l
    cases e : avsEq l qAV with
    | false => simp [e] at he
    | true =>
      simp only [e, cond_true, Option.some.injEq, CRes.mk.injEq] at he
      obtain ⟨rfl, rfl, rfl⟩ := he
      rw [avsEq_eq e] at ha
      obtain ⟨x, rs, hp, hq, rfl⟩ := concs_cons.1 ha
      simp only [concs, Option.some.injEq] at hq
      subst hq
      obtain ⟨vs, h1, _, rfl⟩ := conc_agg.1 hp
      obtain rfl := Option.some.inj ((hx σ).symm.trans h1)
      refine (beyond28 m w).mono ?_
      rintro e w' ⟨rfl, K⟩
      rw [hb]
      exact ⟨_, σ, rfl, rfl, Went.kept' H (ek K)⟩
  · cases he

theorem getF_ok {η : Env} {n : Int} {e1 : Nat} (h2 : η.val 2 = .int .i64 n) (he1 : getE n = (e1 : Int)) {args : List AV} {h : Heap} {c : Nat} {v : AV} {h' : Heap} {c' : Nat} (he : getF e1 args h c = some (.mk v h' c')) {σ : Sig} {w : World} {avs : List Value} (H : HR Tryz.prog σ η h c w) (ha : concs σ η args = some avs) : Calls Tryz.prog 30 avs.toArray w (Done Tryz.prog η σ h c w v h' c') := by
  unfold getF at he
  cases e : avsEq args [.nilp, .sym 2, I 0] with
  | true =>
    simp only [e, cond_true, Option.some.injEq, CRes.mk.injEq] at he
    obtain ⟨rfl, rfl, rfl⟩ := he
    rw [avsEq_eq e] at ha
    have hc : concs σ η [.nilp, .sym 2, I 0] = some [.pointer none, .int .i64 n, .int .i64 0] := by
      have : conc σ η (.sym 2) = some (.int .i64 n) := by simp only [conc, h2]; rfl
      simp only [concs, this]; rfl
    obtain rfl := Option.some.inj (hc.symm.trans ha)
    refine (get_nil n w).mono ?_
    rintro e w' ⟨rfl, K⟩
    rw [he1]
    exact ⟨_, σ, rfl, rfl, Went.kept' H (ek K)⟩
  | false =>
    simp only [e, cond_false] at he
    exact calls_of_callE mixed noGo smAll_ok he Tryz.func30 (by kernel_rfl) H ha

theorem findF_ok {η : Env} {m : Ask} {e2 : Nat} (hz : ∀ σ, concs σ η zAV = some [.string m.sv, .string m.ho, .int .i64 m.fr, .int .i64 m.ti, .int .i64 m.ql]) (hs : m.sv.size ≤ 9223372036854775807) (hh : m.ho.size ≤ 9223372036854775807) (he2 : findE m.sv m.ho m.fr m.ti m.ql = (e2 : Int)) {args : List AV} {h : Heap} {c : Nat} {v : AV} {h' : Heap} {c' : Nat} (he : findF e2 args h c = some (.mk v h' c')) {σ : Sig} {w : World} {avs : List Value} (H : HR Tryz.prog σ η h c w) (ha : concs σ η args = some avs) : Calls Tryz.prog 32 avs.toArray w (Done Tryz.prog η σ h c w v h' c') := by
  unfold findF at he
  cases e : avsEq args [.nilp, .agg zAV, I 0] with
  | true =>
    simp only [e, cond_true, Option.some.injEq, CRes.mk.injEq] at he
    obtain ⟨rfl, rfl, rfl⟩ := he
    rw [avsEq_eq e] at ha
    have hg : conc σ η (.agg zAV) = some (.agg #[.string m.sv, .string m.ho, .int .i64 m.fr, .int .i64 m.ti, .int .i64 m.ql]) := conc_agg.2 ⟨_, hz σ, rfl, rfl⟩
    have hc : concs σ η [.nilp, .agg zAV, I 0] = some [.pointer none, .agg #[.string m.sv, .string m.ho, .int .i64 m.fr, .int .i64 m.ti, .int .i64 m.ql], .int .i64 0] :=
      concs_cons.2 ⟨_, _, rfl, concs_cons.2 ⟨_, _, hg, rfl, rfl⟩, rfl⟩
    obtain rfl := Option.some.inj (hc.symm.trans ha)
    refine (find_nil hs hh w).mono ?_
    rintro e w' ⟨rfl, K⟩
    rw [he2]
    exact ⟨_, σ, rfl, rfl, Went.kept' H (ek K)⟩
  | false =>
    simp only [e, cond_false] at he
    exact calls_of_callE mixed noGo smAll_ok he Tryz.func32 (by kernel_rfl) H ha
end Go.Proofs.YthkcicilmhpfjaaGreatDoor

/- DepotNone of any question. -/
namespace Go.Proofs.YthkcicilmhpfjaaGreatDoor
open Go.RowKit Go.Eng

theorem exDep_ok {η : Env} {m : Ask} {b : Bool} {e1 e2 : Nat} (hx : ∀ σ, concs σ η qAV = some m.cells) (hz : ∀ σ, concs σ η zAV = some [.string m.sv, .string m.ho, .int .i64 m.fr, .int .i64 m.ti, .int .i64 m.ql]) (h2 : η.val 2 = .int .i64 m.tr) (hs : m.sv.size ≤ 9223372036854775807) (hh : m.ho.size ≤ 9223372036854775807)
    (hb : beyQ m = b) (he1 : getE m.tr = (e1 : Int)) (he2 : findE m.sv m.ho m.fr m.ti m.ql = (e2 : Int)) : SmOk Tryz.prog η (smMore (exDep b e1 e2)) := by
  refine smMore_ok fun f g hg args h c v h' c' he σ w avs H ha => ?_
  unfold exDep at hg
  cases e : Nat.beq f 28 with
  | true =>
    simp only [e, cond_true, Option.some.injEq] at hg
    subst hg
    have := Nat.eq_of_beq_eq_true e
    subst this
    exact leads_of noGo Tryz.func28 (by kernel_rfl) (beyQF_ok hx hb he H ha)
  | false =>
    simp only [e, cond_false] at hg
    cases e' : Nat.beq f 30 with
    | true =>
      simp only [e', cond_true, Option.some.injEq] at hg
      subst hg
      have := Nat.eq_of_beq_eq_true e'
      subst this
      exact leads_of noGo Tryz.func30 (by kernel_rfl) (getF_ok h2 he1 he H ha)
    | false =>
      simp only [e', cond_false] at hg
      cases e'' : Nat.beq f 32 with
      | true =>
        simp only [e'', cond_true, Option.some.injEq] at hg
        subst hg
        have := Nat.eq_of_beq_eq_true e''
        subst this
        exact leads_of noGo Tryz.func32 (by kernel_rfl) (findF_ok hz hs hh he2 he H ha)
      | false =>
        simp only [e'', cond_false] at hg
        cases e3 : Nat.beq f 29 with
        | true =>
          simp only [e3, cond_true, Option.some.injEq] at hg
          subst hg
          have := Nat.eq_of_beq_eq_true e3
          subst this
          exact leads_of noGo Tryz.func29 (by kernel_rfl) (livesS_ok (f := 29) (fun R => lives23_any R) he H ha)
        | false => simp [e3] at hg

theorem getE_one_two (n : Int) : getE n = (1 : Nat) ∨ getE n = (2 : Nat) := by
  unfold getE; split
  · exact .inr rfl
  · split
    · exact .inr rfl
    · exact .inl rfl
theorem findE_one_two (a b : ByteArray) (f t l : Int) : findE a b f t l = (1 : Nat) ∨ findE a b f t l = (2 : Nat) := by
  unfold findE; split
  · exact .inl rfl
  · exact .inr rfl

theorem depotNone_any {η : Env} {m : Ask} {w : World} (hx : ∀ σ, concs σ η qAV = some m.cells) (hz : ∀ σ, concs σ η zAV = some [.string m.sv, .string m.ho, .int .i64 m.fr, .int .i64 m.ti, .int .i64 m.ql]) (h2 : η.val 2 = .int .i64 m.tr) (hs : m.sv.size ≤ 9223372036854775807) (hh : m.ho.size ≤ 9223372036854775807) (h0 : RoHeap Tryz.prog η hG w) :
    Calls Tryz.prog 5 #[.agg m.cells.toArray] w fun e w' => e = .returned (.bool true) ∧ Eng.Kept (fun _ => False) w w' := by
  have G : Tryz.prog.globals.size = 6 := by kernel_rfl
  have ha : concs (sig0 Tryz.prog.globals.size) η [.agg qAV] = some [.agg m.cells.toArray] := concs_cons.2 ⟨_, _, conc_agg.2 ⟨_, hx _, rfl, rfl⟩, rfl, rfl⟩
  have main : ∀ {b : Bool} {e1 e2 : Nat}, beyQ m = b → getE m.tr = (e1 : Int) → findE m.sv m.ho m.fr m.ti m.ql = (e2 : Int) → isRes 6 hG (.bool true) (callE Tryz.prog (smMore (exDep b e1 e2)) 100000 (.fn 5) [.agg qAV] hG 6) = true →
      Calls Tryz.prog 5 #[.agg m.cells.toArray] w fun e w' => e = .returned (.bool true) ∧ Eng.Kept (fun _ => False) w w' := fun hb q1 q2 ev =>
    calls_plain (v := .bool true) mixed noGo (exDep_ok hx hz h2 hs hh hb q1 q2) (by rw [G]; exact ev) Tryz.func5 (by kernel_rfl) h0 ha fun _ => rfl
  rcases getE_one_two m.tr with g | g <;> rcases findE_one_two m.sv m.ho m.fr m.ti m.ql with k | k <;> cases hb : beyQ m
  · exact main hb g k dep11
  · exact main hb g k depT
  · exact main hb g k dep12
  · exact main hb g k depT12
  · exact main hb g k dep21
  · exact main hb g k depT21
  · exact main hb g k dep22
  · exact main hb g k depT22
end Go.Proofs.YthkcicilmhpfjaaGreatDoor

/- What the rows list of the variables: the one variable that the runs read, and a world in which they all hold what is listed. -/
namespace Go.Proofs.YthkcicilmhpfjaaGreatDoor
open Go.ChangeShapes Go.WideShapes Go.RowKit Go.Eng

theorem ownT : ownKnob Tryz.prog.godebug = none := by kernel_rfl
theorem starT : "*" ++ "errors.errorString" = "*errors.errorString" := by decide
theorem row591 (u : TypeId) (h : Tryz.prog.typeName? 3 u = some "*errors.errorString") : u = 591 :=
  typeName_ptr_named (nm := "errors.errorString") (by rw [starT]; kernel_rfl) (by kernel_rfl) (by decide) u (by rw [starT]; exact h)

/-- The values that the runs' names stand for, in a world: the variable's, and the arguments. -/
noncomputable def envW (W : World) (ys : List Value) : Env := ⟨fun i => match i with
  | 1 => (W.cell? ⟨1, 0, none⟩).getD undef
  | i => ys.getD (i - 2) undef, fun n => W.heap[n]?⟩

theorem laid_roE {W : World} {r : List (String × DataW Unit)} (h : laidMet Tryz.prog (("strconv.ErrSyntax", Rows.laid_strconv_ErrSyntax) :: r) W) {η : Env} (h1 : η.val 1 = (W.cell? ⟨1, 0, none⟩).getD undef) (hb : η.blk 1 = W.heap[1]?) : RoHeap Tryz.prog η hG W := by
  obtain ⟨a, s, hv, _⟩ := laid_sentinel h (g := 1) (ti := 261) (tp := 591) (te := 593) (ts := 9) (by kernel_rfl) (by kernel_rfl) Tryz.underlying261 row591 Tryz.underlying591 Tryz.underlying593 rfl rfl Tryz.underlying9 (by kernel_rfl) (by kernel_rfl)
  have hg : Tryz.prog.globalNamed "strconv.ErrSyntax" = some 1 := by kernel_rfl
  have hc : W.cell? ⟨1, 0, none⟩ = some (.iface 591 (.pointer (some a))) := by simpa using World.var?_cell hg hv 0
  unfold World.var? at hv
  rw [hg] at hv
  simp only [Option.bind_some] at hv
  intro n o hn
  obtain ⟨rfl, rfl⟩ := hG_get hn
  split at hv
  · rename_i cs t fr e
    cases hv
    refine ⟨by rw [show Tryz.prog.globals.size = 6 by kernel_rfl]; decide, 261, _, rfl, _, fr, [.iface 591 (.pointer (some a))], t, e, fun σ => ?_, fun i v hi => by simpa using hi, rfl, hb.trans e⟩
    have : η.val 1 = .iface 591 (.pointer (some a)) := by rw [h1, hc]; rfl
    refine concs_cons.2 ⟨_, [], ?_, rfl, rfl⟩
    simp only [conc, this]
    rfl
  · cases hv

theorem laid_ro {W : World} {r : List (String × DataW Unit)} (h : laidMet Tryz.prog (("strconv.ErrSyntax", Rows.laid_strconv_ErrSyntax) :: r) W) (ys : List Value) : RoHeap Tryz.prog (envW W ys) hG W := laid_roE h rfl rfl

/-! ### a world that holds what is listed -/
abbrev synS : ByteArray := { data := #[105, 110, 118, 97, 108, 105, 100, 32, 115, 121, 110, 116, 97, 120] }
abbrev rngS : ByteArray := { data := #[118, 97, 108, 117, 101, 32, 111, 117, 116, 32, 111, 102, 32, 114, 97, 110, 103, 101] }
noncomputable def low : Nat := (World.holding Tryz.prog default ⟨#[], #[], []⟩).heap.size
def litsOf (k : IntKind) : DataW Unit → Array Value
  | .agg l => (l.map fun | .lit (.int _ n) => Value.int k n | _ => undef).toArray
  | _ => #[]
def withCells (cs : Array Value) : Obj → Obj
  | .cells _ t frozen => .cells cs t frozen
  | o => o
noncomputable def laidWorld (os : Os) : World :=
  let w0 := World.holding Tryz.prog os ⟨#[.cells #[.string synS] 593, .cells #[.string rngS] 593], #[], []⟩
  { w0 with heap := ((((w0.heap.modify 1 (withCells #[.iface 591 (.pointer (some ⟨low, 0, none⟩))])).modify 2 (withCells #[.iface 591 (.pointer (some ⟨low + 1, 0, none⟩))])).modify 3 (withCells (litsOf .u64 Rows.laid_internal_strconv_uint64pow10))).modify 4 (withCells (litsOf .u8 Rows.laid_math_bits_deBruijn32tab))).modify 5 (withCells (litsOf .u8 Rows.laid_math_bits_deBruijn64tab)) }
end Go.Proofs.YthkcicilmhpfjaaGreatDoor

/- Cells in memory, and how a list of them reads as an argument; whether a list of them is beyond: yes or no, and nothing turns. -/
namespace Go.Proofs.YthkcicilmhpfjaaGreatDoor
open Go.ChangeShapes Go.WideShapes Go.ChangeAt Go.RowKit Go.Deep

structure Cl where
  ke : ByteArray
  sq : Int
  va : ByteArray
  deriving Inhabited
def Cl.cells (m : Cl) : List Value := [.string m.ke, .int .i64 m.sq, .string m.va]
def cellsC : List Cl → List Value
  | [] => []
  | m :: t => m.cells ++ cellsC t
theorem cellsC_length : ∀ L, (cellsC L).length = L.length * 3
  | [] => rfl
  | m :: t => by simp [cellsC, cellsC_length t, Cl.cells]; omega
theorem cellsC_at : ∀ (L : List Cl) (i : Nat) (m : Cl), L[i]? = some m → ∀ k, k < 3 → (cellsC L)[i * 3 + k]? = m.cells[k]?
  | [], i, m, h, _, _ => by simp at h
  | x :: t, 0, m, h, k, hk => by
    simp at h; subst h
    rw [cellsC, List.getElem?_append_left (by simp [Cl.cells]; omega)]; simp
  | x :: t, i + 1, m, h, k, hk => by
    have := cellsC_at t i m (by simpa using h) k hk
    rw [cellsC, List.getElem?_append_right (by simp [Cl.cells]; omega)]
    rw [← this]; congr 1; simp [Cl.cells]; omega
/-- A list of cells, as it lies. -/
def ReadsC (w : World) (v : Value) (L : List Cl) : Prop :=
  ∃ ao cap, v = .slice ao L.length cap ∧ (L = [] ∨ ∃ g o, ao = some ⟨g, o, none⟩ ∧ ∀ j u, (cellsC L)[j]? = some u → w.cell? ⟨g, o + j, none⟩ = some u)
theorem ReadsC.at {w : World} {L : List Cl} {g o : Nat} (hc : ∀ j u, (cellsC L)[j]? = some u → w.cell? ⟨g, o + j, none⟩ = some u) {i : Nat} {m : Cl} (hm : L[i]? = some m) :
    w.cell? ⟨g, o + i * 3, none⟩ = some (.string m.ke) ∧ w.cell? ⟨g, o + i * 3 + 1, none⟩ = some (.int .i64 m.sq) ∧ w.cell? ⟨g, o + i * 3 + 2, none⟩ = some (.string m.va) := by
  have h := fun k hk u (hu : m.cells[k]? = some u) => hc _ u ((cellsC_at L i m hm k hk).trans hu)
  refine ⟨by have := h 0 (by omega) _ rfl; simpa [Nat.add_assoc] using this, by have := h 1 (by omega) _ rfl; simpa [Nat.add_assoc] using this, by have := h 2 (by omega) _ rfl; simpa [Nat.add_assoc] using this⟩
theorem cellsOf3 : Tryz.prog.cellsOf 3 = 1 := by kernel_rfl
theorem cellsOf9 : Tryz.prog.cellsOf 9 = 1 := by kernel_rfl
theorem cellsOf38 : Tryz.prog.cellsOf 38 = 3 := by kernel_rfl

section
variable {H : Type} {enc : TypeId × Value → H} {w : World} {base : Nat} {spare : Nat → Bool} {held : Bool} {fuel : Nat} {cs : List Value} {x : DataW H × List MemPlace}
set_option maxRecDepth 100000 in
theorem cl_cells (h : DataW.trod enc Tryz.prog w base spare held fuel 38 cs = some x) : ∃ m : Cl, cs = m.cells ∧ m.ke.size ≤ maxLen ∧ m.va.size ≤ maxLen := by
  obtain ⟨xs, n, _, rfl, hl, hlen, hf⟩ := DataW.trod_struct Tryz.underlying38 h
  rw [cellsOf38] at hl
  match xs, hlen, cs, hl with
  | [y0, y1, y2], _, [c0, c1, c2], _ =>
    have h0 := hf 0 _ rfl
    have h1 := hf 1 _ rfl
    have h2 := hf 2 _ rfl
    simp [cellsOf9] at h0
    simp [cellsOf3] at h1
    simp [cellsOf9] at h2
    obtain ⟨a0, e0, _, b0⟩ := DataW.trod_string Tryz.underlying9 h0
    obtain ⟨a1, e1, _, _⟩ := DataW.trod_int Tryz.underlying3 h1
    obtain ⟨a2, e2, _, b2⟩ := DataW.trod_string Tryz.underlying9 h2
    simp only [List.cons.injEq, and_true] at e0 e1 e2
    exact ⟨⟨a0, a1, a2⟩, by rw [e0, e1, e2]; rfl, b0, b2⟩
theorem mapM_get {α β : Type} {f : α → Option β} : ∀ {l : List α} {r : List β}, l.mapM f = some r → r.length = l.length ∧ ∀ (i : Nat) (y : β), r[i]? = some y → ∃ z, l[i]? = some z ∧ f z = some y
  | [], r, h => by simp at h; subst h; exact ⟨rfl, fun i y hy => by simp at hy⟩
  | z :: l, r, h => by
    rw [List.mapM_cons] at h
    cases h1 : f z with
    | none => simp [h1] at h
    | some y0 =>
      cases h2 : l.mapM f with
      | none => simp [h1, h2] at h
      | some r0 =>
        simp [h1, h2] at h
        subst h
        obtain ⟨e, ih⟩ := mapM_get h2
        refine ⟨by simp [e], fun i y hy => ?_⟩
        cases i with
        | zero => simp at hy; subst hy; exact ⟨z, rfl, h1⟩
        | succ i => simpa using ih i y (by simpa using hy)
theorem cells_get {a : Addr} {n : Nat} {cs' : List Value} (h : w.cells? base a n = some cs') : cs'.length = n ∧ ∀ r u, cs'[r]? = some u → w.cell? (a.add r) = some u := by
  unfold World.cells? at h
  split at h
  · obtain ⟨e, hg⟩ := mapM_get h
    refine ⟨by simpa using e, fun r u hu => ?_⟩
    obtain ⟨z, hz, hf⟩ := hg r u hu
    have hr : r < n := by have := (List.getElem?_eq_some_iff.1 hu).1; simp at e; omega
    rw [List.getElem?_range hr] at hz
    cases hz; exact hf
  · cases h
theorem cells_open (h : DataW.trod enc Tryz.prog w 0 spare held fuel 34 cs = some x) :
    ∃ v, cs = [v] ∧ ∃ R : List Cl, ReadsC w v R ∧ R.length ≤ maxLen ∧ ∀ y ∈ R, y.ke.size ≤ maxLen ∧ y.va.size ≤ maxLen := by
  rcases open_slice Tryz.underlying34 h with ⟨hcs, _⟩ | ⟨b, len, cap, m, n, D, Pl, hcs, _, hl, hm, hmm, _, hel⟩
  · exact ⟨_, hcs, [], ⟨none, 0, rfl, .inl rfl⟩, by simp, fun y hy => by cases hy⟩
  · have hlm : len ≤ m := by rw [hmm]; split <;> omega
    rw [cellsOf38] at hel
    obtain ⟨f, hf⟩ := choose_lt (n := len) (p := fun i (y : Cl) => (∃ cs', w.cells? 0 (b.add (i * 3)) 3 = some cs' ∧ cs' = y.cells) ∧ y.ke.size ≤ maxLen ∧ y.va.size ≤ maxLen) (fun i hi => by
      obtain ⟨cs', h1, h2⟩ := hel i (by omega)
      obtain ⟨y, e, hb⟩ := cl_cells h2
      exact ⟨y, ⟨cs', h1, e⟩, hb⟩)
    refine ⟨_, hcs, (List.range len).map f, ⟨some b, cap, by simp, ?_⟩, by simp; omega, fun y hy => ?_⟩
    · by_cases h0 : len = 0
      · left; subst h0; rfl
      · right
        obtain ⟨⟨cs', h1, h2⟩, _⟩ := hf 0 (by omega)
        obtain ⟨_, hg⟩ := cells_get h1
        have hspot : b.spot = none := by
          have := hg 0 (.string (f 0).ke) (by rw [h2]; rfl)
          have := World.cell?_spot this
          simpa [Addr.add] using this
        obtain ⟨bb, bo, bs⟩ := b
        simp at hspot; subst hspot
        refine ⟨bb, bo, rfl, fun j u hu => ?_⟩
        have hl2 := (List.getElem?_eq_some_iff.1 hu).1
        rw [cellsC_length] at hl2
        simp at hl2
        have hq : j / 3 < len := by omega
        have hj : j = j / 3 * 3 + j % 3 := by omega
        have hgm : ((List.range len).map f)[j / 3]? = some (f (j / 3)) := by simp [hq]
        rw [hj, cellsC_at _ _ _ hgm _ (Nat.mod_lt _ (by omega))] at hu
        obtain ⟨⟨cs', h1, h2⟩, _⟩ := hf (j / 3) hq
        obtain ⟨_, hg⟩ := cells_get h1
        have := hg (j % 3) u (by rw [h2]; exact hu)
        rw [add_mid, add_mid] at this
        rw [show bo + j = bo + j / 3 * 3 + j % 3 by omega]
        exact this
    · obtain ⟨i, hi, rfl⟩ := List.mem_map.1 hy
      exact (hf i (by simpa using hi)).2
end

def AnyB (e : Ending) : Prop := ∃ r : Bool, e = .returned (.bool r)
set_option maxHeartbeats 4000000 in
set_option maxRecDepth 100000 in
theorem beyond_any (mx : Int) {w : World} {v : Value} {L : List Cl} (h : ReadsC w v L) (hl : L.length ≤ 9223372036854775807) (hfit : ∀ y ∈ L, y.ke.size ≤ 9223372036854775807 ∧ y.va.size ≤ 9223372036854775807) :
    Calls Tryz.prog 13 #[v, .int .i64 mx] w fun e w' => AnyB e ∧ w = w' := by
  obtain ⟨ao, cap, rfl, h⟩ := h
  have HR := Lib.hid h
  clear h
  by_cases h20 : (L.length : Int) ≤ mx
  · have e1 : ¬ mx < (L.length : Int) := by omega
    go_enter Tryz.func13, Tryz.ntmps13
    go_wp2
    go_loopg [5] L.length (fun gh t wr => ∃ k : Nat, k + gh = L.length ∧ t = .int .i64 k ∧ wr = w)
    case atStart => exact ⟨0, by omega, rfl, rfl⟩
    case round =>
      obtain ⟨k, hk, rfl, rfl⟩ := hrel
      have hk1 : k ≤ L.length := by omega
      have JK := Lib.hid hk
      clear hk
      by_cases hlt : k < L.length
      · rcases HR.out with h0 | ⟨g, o, rfl, hc⟩
        · rw [h0] at hlt; simp at hlt
        obtain ⟨m, hm⟩ : ∃ m, L[k]? = some m := ⟨_, List.getElem?_eq_getElem hlt⟩
        obtain ⟨c0, _, c2⟩ := ReadsC.at hc hm
        have f := hfit m (List.mem_of_getElem? hm)
        have i1 : (0 : Int) ≤ (k : Int) := by omega
        have i2 : (k : Int) < (L.length : Int) := by omega
        have f1 := f.1; have f2 := f.2
        clear hc hm f
        by_cases g1 : (300 : Int) < (m.ke.size : Int)
        · go_wp2
          go_ret
          exact ⟨⟨_, rfl⟩, rfl⟩
        · by_cases g2 : (300 : Int) < (m.va.size : Int)
          · go_wp2
            go_ret
            exact ⟨⟨_, rfl⟩, rfl⟩
          · go_wp2
            go_roundg (L.length - k - 1)
            case measure => have := JK.out; omega
            case rel => exact ⟨k + 1, by omega, by go_num, rfl⟩
      · have e3 : ¬ (k : Int) < (L.length : Int) := by omega
        go_wp2
        go_ret
        exact ⟨⟨_, rfl⟩, rfl⟩
  · have e1 : mx < (L.length : Int) := by omega
    go_enter Tryz.func13, Tryz.ntmps13
    go_wp2
    go_ret
    exact ⟨⟨_, rfl⟩, rfl⟩
end Go.Proofs.YthkcicilmhpfjaaGreatDoor

/- How a question reads as an argument. -/
namespace Go.Proofs.YthkcicilmhpfjaaGreatDoor
open Go.ChangeShapes Go.WideShapes Go.ChangeAt Go.RowKit Go.Deep Go.Eng

theorem cellsOf66 : Tryz.prog.cellsOf 66 = 5 := by kernel_rfl
theorem cellsOf5 : Tryz.prog.cellsOf 5 = 1 := by kernel_rfl
theorem cellsOf68 : Tryz.prog.cellsOf 68 = 9 := by kernel_rfl
section
variable {H : Type} {enc : TypeId × Value → H} {w : World} {spare : Nat → Bool} {held : Bool} {fuel : Nat} {cs : List Value} {x : DataW H × List MemPlace}
set_option maxRecDepth 100000 in
theorem qry_cells (h : DataW.trod enc Tryz.prog w 0 spare held fuel 66 cs = some x) : ∃ (a b : ByteArray) (f t l : Int), cs = [.string a, .string b, .int .i64 f, .int .i64 t, .int .i64 l] ∧ a.size ≤ maxLen ∧ b.size ≤ maxLen := by
  obtain ⟨xs, n, _, rfl, hl, hlen, hf⟩ := DataW.trod_struct Tryz.underlying66 h
  rw [cellsOf66] at hl
  match xs, hlen, cs, hl with
  | [y0, y1, y2, y3, y4], _, [c0, c1, c2, c3, c4], _ =>
    have h0 := hf 0 _ rfl
    have h1 := hf 1 _ rfl
    have h2 := hf 2 _ rfl
    have h3 := hf 3 _ rfl
    have h4 := hf 4 _ rfl
    simp [cellsOf9] at h0
    simp [cellsOf9] at h1
    simp [cellsOf3] at h2
    simp [cellsOf3] at h3
    simp [cellsOf3] at h4
    obtain ⟨a0, e0, _, b0⟩ := DataW.trod_string Tryz.underlying9 h0
    obtain ⟨a1, e1, _, b1⟩ := DataW.trod_string Tryz.underlying9 h1
    obtain ⟨a2, e2, _, _⟩ := DataW.trod_int Tryz.underlying3 h2
    obtain ⟨a3, e3, _, _⟩ := DataW.trod_int Tryz.underlying3 h3
    obtain ⟨a4, e4, _, _⟩ := DataW.trod_int Tryz.underlying3 h4
    simp only [List.cons.injEq, and_true] at e0 e1 e2 e3 e4
    exact ⟨a0, a1, a2, a3, a4, by rw [e0, e1, e2, e3, e4], b0, b1⟩
set_option maxRecDepth 100000 in
theorem ask_cells (h : DataW.trod enc Tryz.prog w 0 spare held fuel 68 cs = some x) : ∃ m : Ask, cs = m.cells ∧ m.sv.size ≤ maxLen ∧ m.ho.size ≤ maxLen := by
  obtain ⟨xs, n, _, rfl, hl, hlen, hf⟩ := DataW.trod_struct Tryz.underlying68 h
  rw [cellsOf68] at hl
  match xs, hlen, cs, hl with
  | [y0, y1, y2, y3, y4], _, [c0, c1, c2, c3, c4, c5, c6, c7, c8], _ =>
    have h0 := hf 0 _ rfl
    have h1 := hf 1 _ rfl
    have h2 := hf 2 _ rfl
    have h3 := hf 3 _ rfl
    have h4 := hf 4 _ rfl
    simp [cellsOf3] at h0
    simp [cellsOf3] at h1
    simp [cellsOf3] at h2
    simp [cellsOf66] at h3
    simp [cellsOf5] at h4
    obtain ⟨a0, e0, _, _⟩ := DataW.trod_int Tryz.underlying3 h0
    obtain ⟨a1, e1, _, _⟩ := DataW.trod_int Tryz.underlying3 h1
    obtain ⟨a2, e2, _, _⟩ := DataW.trod_int Tryz.underlying3 h2
    obtain ⟨a, b, f, t, l, e3, b3, b4⟩ := qry_cells h3
    obtain ⟨a4, e4, _, _⟩ := DataW.trod_int Tryz.underlying5 h4
    simp only [List.cons.injEq, and_true] at e0 e1 e2 e3 e4
    obtain ⟨rfl, rfl, rfl, rfl, rfl⟩ := e3
    exact ⟨⟨a0, a1, a2, a, b, f, t, l, a4⟩, by rw [e0, e1, e2, e4]; rfl, b3, b4⟩
end
theorem envQ_x (W : World) (m : Ask) (σ : Sig) : concs σ (envW W m.cells) qAV = some m.cells := rfl
theorem envQ_z (W : World) (m : Ask) (σ : Sig) : concs σ (envW W m.cells) zAV = some [.string m.sv, .string m.ho, .int .i64 m.fr, .int .i64 m.ti, .int .i64 m.ql] := rfl
end Go.Proofs.YthkcicilmhpfjaaGreatDoor

