/- A part of the proof. -/
import Derived.Test.YthkcicilmhpfjaaGreatDoorSo4

/- The run of 20: the states between its pieces. -/
namespace Go.Proofs.YthkcicilmhpfjaaGreatDoor
open Go.Eng
noncomputable def p20 : List Code := match Tryz.f14.body with | some b => flat b [] | none => []
noncomputable def h20_0 : Heap := (.node none (.node (some (.ro 261 [.sym 1])) N N) N)
noncomputable def m20_0 : Tmps := N
noncomputable def m20_1 : Tmps := (.node (some (.bool false)) (.node (some (.ptr 7 0)) (.node none (.node none (.node (some (.ptr 77 0)) (.node (some (.bool false)) N N) N) (.node (some (.bool false)) N N)) (.node
  (some (.tup [.ptr 7 0, .ptr 77 0])) (.node (some (.agg [.str [97], I 0, .str [49]])) N N) (.node (some (.agg [.str [97], I 0, .str [51]])) N N))) (.node none (.node none (.node
  (some (.bool false)) N N) (.node (some (.bool false)) N N)) (.node (some (.ptr 7 0)) (.node (some (.slice 128 0 2 2 false)) N N) (.node (some (I 0)) N N)))) (.node (some (.ptr
  77 0)) (.node none (.node none (.node (some (.bool false)) N N) (.node (some (.bool false)) N N)) (.node (some (.tup [.ptr 7 0, .ptr 77 0])) (.node (some (.agg [.str [98], I 0,
  .str [50]])) N N) (.node (some (.slice 260 0 1 1 false)) N N))) (.node none (.node none (.node (some (.ptr 77 0)) N N) (.node (some (.ptr 77 0)) N N)) (.node (some (.ptr 77 0))
  (.node (some (I 0)) N N) (.node (some (.bool false)) N N)))))
noncomputable def h20_1 : Heap := (.node none (.node (some (.ro 261 [.sym 1])) (.node none (.node (some (.cells 189 [I 1048576, I 0, .bool false, .map 6, .nilf, .nils])) (.node none N (.node none N (.node none N
  (.node none (.node (some (.cells 38 [.str [97], I 3, .str [51], .str [97], I 1, .str [49], .str [98], I 2, .str [50]])) N N) N)))) N) (.node none (.node none (.node none (.node
  (some (.cells 269 [.ptr 7 0, I 0, .bool false, I 1])) N N) N) N) (.node none N (.node none (.node (some (.cells 152 [.ptr 89 0])) N N) N)))) (.node none (.node none N (.node
  none N (.node none (.node (some (.cells 253 [.bool true, .slice 224 0 1 1 false])) N N) N))) (.node (some (.cells 246 [.ptr 7 0, I 0, .bool false, .slice 12 0 1 1 false, I 1, I
  2, I 13])) N (.node none (.node none (.node (some (.cells 58 [.ptr 7 0, .ptr 13 0, .ptr 67 0, .slice 91 0 1 1 true, .map 76, I 3])) N N) N) N)))) (.node none (.node none (.node
  none (.node none (.node none N (.node none N (.node (some (.cells 254 [.slice 367 0 3 3 true])) N N))) N) N) (.node (some (.cells 150 [.str [], .nils])) N (.node none (.node
  none (.node (some (.map [] 0)) N N) N) N))) (.node (some (.map [(.str [109], .agg [.str [2, 0, 5, 1, 2, 1, 0, 0, 0, 21, 0, 5, 3], I 13], 1), (.str [106, 49], .agg [.str [2, 0,
  10, 1, 97, 1, 1, 49, 1, 98, 2, 1, 50, 6, 121, 1, 46, 3, 2, 0, 5, 1, 97, 3, 1, 51, 1, 204, 0, 154, 3], I 31], 2)] 3)) N N)))
noncomputable def m20_2 : Tmps := (.node (some (.bool false)) (.node (some (.ptr 7 0)) (.node (some (.ptr 413 0)) (.node none (.node (some (.ptr 77 0)) (.node (some (.bool false)) N N) N) (.node (some (.bool
  false)) N N)) (.node (some (.tup [.ptr 7 0, .ptr 77 0])) (.node (some (.agg [.str [97], I 0, .str [49]])) (.node (some (.agg [.str [97], I 3, .str [51]])) N N) N) (.node (some
  (.agg [.str [97], I 0, .str [51]])) N N))) (.node (some (I 3)) (.node none (.node (some (.bool false)) (.node (some (.ptr 77 0)) N N) N) (.node (some (.bool false)) N N)) (.node
  (some (.ptr 7 0)) (.node (some (.slice 128 0 2 2 false)) (.node (some (.ptr 77 0)) N N) N) (.node (some (I 0)) N N)))) (.node (some (.ptr 77 0)) (.node (some (.bool true))
  (.node none (.node (some (.bool false)) (.node (some (.tup [.agg [.str [97], I 3, .str [51]], .bool true])) N N) N) (.node (some (.bool false)) N N)) (.node (some (.tup [.ptr 7
  0, .ptr 77 0])) (.node (some (.agg [.str [98], I 0, .str [50]])) (.node (some (.bool true)) N N) N) (.node (some (.slice 260 0 1 1 false)) N N))) (.node none (.node none (.node
  (some (.ptr 77 0)) (.node (some (.tup [.agg [.str [97], I 3, .str [51]], .bool true])) N N) N) (.node (some (.ptr 77 0)) N N)) (.node (some (.ptr 77 0)) (.node (some (I 0))
  (.node (some (I 3)) N N) N) (.node (some (.bool false)) N N)))))
noncomputable def h20_2 : Heap := (.node none (.node (some (.ro 261 [.sym 1])) (.node none (.node (some (.cells 189 [I 1048576, I 0, .bool false, .map 6, .nilf, .nils])) (.node none N (.node none N (.node none N
  (.node none (.node (some (.cells 38 [.str [97], I 3, .str [51], .str [97], I 1, .str [49], .str [98], I 2, .str [50]])) N N) N)))) N) (.node none (.node none (.node none (.node
  (some (.cells 269 [.ptr 7 0, I 0, .bool false, I 1])) N N) N) N) (.node none N (.node none (.node (some (.cells 152 [.ptr 89 0])) N N) N)))) (.node none (.node none N (.node
  none N (.node none (.node (some (.cells 253 [.bool true, .slice 224 0 1 1 false])) N N) N))) (.node (some (.cells 246 [.ptr 7 0, I 0, .bool false, .slice 12 0 1 1 false, I 1, I
  2, I 13])) N (.node none (.node none (.node (some (.cells 58 [.ptr 7 0, .ptr 13 0, .ptr 67 0, .slice 91 0 1 1 true, .map 76, I 3])) N N) N) (.node none (.node none (.node none N
  (.node (some (.cells 38 [.str [97], I 3, .str [51]])) N N)) N) N))))) (.node none (.node none (.node none (.node none (.node none N (.node none N (.node (some (.cells 254
  [.slice 367 0 3 3 true])) N N))) N) N) (.node (some (.cells 150 [.str [], .nils])) N (.node none (.node none (.node (some (.map [] 0)) N N) N) N))) (.node (some (.map [(.str
  [109], .agg [.str [2, 0, 5, 1, 2, 1, 0, 0, 0, 21, 0, 5, 3], I 13], 1), (.str [106, 49], .agg [.str [2, 0, 10, 1, 97, 1, 1, 49, 1, 98, 2, 1, 50, 6, 121, 1, 46, 3, 2, 0, 5, 1, 97,
  3, 1, 51, 1, 204, 0, 154, 3], I 31], 2)] 3)) N N)))
noncomputable def m20_3 : Tmps := (.node (some (.bool false)) (.node (some (.ptr 7 0)) (.node (some (.ptr 413 0)) (.node none (.node (some (.ptr 77 0)) (.node (some (.bool false)) (.node (some (.bool false)) N N)
  N) (.node (some (.ptr 413 2)) N N)) (.node (some (.bool false)) (.node (some (.bool true)) (.node (some (.ptr 77 0)) N N) N) (.node (some (.bool false)) N N))) (.node (some
  (.tup [.ptr 7 0, .ptr 77 0])) (.node (some (.agg [.str [97], I 0, .str [49]])) (.node (some (.agg [.str [97], I 3, .str [51]])) (.node (some (I 0)) N N) N) (.node (some (.bool
  false)) N N)) (.node (some (.agg [.str [97], I 0, .str [51]])) (.node (some (I 3)) N N) (.node (some (.bool false)) N N)))) (.node (some (I 3)) (.node none (.node (some (.bool
  false)) (.node (some (.ptr 77 0)) (.node (some (.bool false)) N N) N) (.node (some (.bool false)) N N)) (.node (some (.bool false)) (.node (some (.bool false)) (.node (some
  (.bool false)) N N) N) (.node (some (I 0)) N N))) (.node (some (.ptr 7 0)) (.node (some (.slice 128 0 2 2 false)) (.node (some (.ptr 77 0)) (.node (some (.bool false)) N N) N)
  (.node (some (.bool false)) N N)) (.node (some (I 0)) (.node (some (.bool false)) N N) (.node (some (.ptr 77 0)) N N))))) (.node (some (.ptr 77 0)) (.node (some (.bool true))
  (.node none (.node (some (.bool false)) (.node (some (.tup [.agg [.str [97], I 3, .str [51]], .bool true])) (.node (some (.bool false)) N N) N) (.node (some (.str [51])) N N))
  (.node (some (.bool false)) (.node (some (.bool false)) (.node (some (I 0)) N N) N) (.node (some (.ptr 77 0)) N N))) (.node (some (.tup [.ptr 7 0, .ptr 77 0])) (.node (some
  (.agg [.str [98], I 0, .str [50]])) (.node (some (.bool true)) (.node (some (.bool false)) N N) N) (.node (some (I 3)) N N)) (.node (some (.slice 260 0 1 1 false)) (.node (some
  (.bool false)) N N) (.node (some (.bool false)) N N)))) (.node none (.node none (.node (some (.ptr 77 0)) (.node (some (.tup [.agg [.str [97], I 3, .str [51]], .bool true]))
  (.node (some (.ptr 77 0)) N N) N) (.node (some (.bool false)) N N)) (.node (some (.ptr 77 0)) (.node (some (.ptr 413 1)) (.node (some (.bool false)) N N) N) (.node (some (.bool
  false)) N N))) (.node (some (.ptr 77 0)) (.node (some (I 0)) (.node (some (I 3)) (.node (some (.bool false)) N N) N) (.node (some (.bool false)) N N)) (.node (some (.bool
  false)) (.node (some (.bool false)) N N) (.node (some (I 0)) N N))))))
noncomputable def h20_3 : Heap := (.node none (.node (some (.ro 261 [.sym 1])) (.node none (.node (some (.cells 189 [I 1048576, I 0, .bool false, .map 6, .nilf, .nils])) N (.node none N (.node none N (.node none
  (.node none N (.node none (.node (some (.cells 253 [.bool true, .nils])) N N) N)) N)))) (.node none (.node none (.node none (.node (some (.cells 269 [.ptr 7 0, I 0, .bool false,
  I 1])) N N) N) (.node none N (.node none (.node none N (.node none N (.node (some (.cells 352 [.str [97], .slice 945 0 2 2 true])) N N))) N))) (.node none N (.node none (.node
  (some (.cells 152 [.ptr 695 0])) N N) N)))) (.node none (.node none (.node none N (.node none N (.node none (.node none N (.node none N (.node (some (.cells 38 [.str [97], I 3,
  .str [51], .str [98], I 2, .str [50]])) N N))) N))) (.node none N (.node none (.node none N (.node none N (.node none N (.node (some (.cells 150 [.str [], .slice 988 0 1 1
  true])) N N)))) N))) (.node (some (.cells 246 [.ptr 7 0, I 0, .bool false, .slice 985 0 1 1 false, I 1, I 4, I 42])) N (.node none (.node none (.node (some (.cells 58 [.ptr 7 0,
  .ptr 13 0, .ptr 67 0, .slice 91 0 1 1 true, .map 76, I 3])) N N) N) N)))) (.node none (.node none N (.node none N (.node none (.node none (.node (some (.map [(I 3, .ptr 914 0,
  1)] 2)) N N) N) (.node none (.node none N (.node none N (.node none N (.node (some (.cells 3 [I 3])) N N)))) N)))) (.node (some (.map [(.str [109], .agg [.str [2, 0, 5, 1, 2, 1,
  0, 0, 0, 21, 0, 5, 3, 2, 0, 6, 1, 1, 0, 2, 0, 0, 0, 23, 0, 5, 3, 2, 0, 7, 1, 2, 0, 0, 1, 3, 0, 0, 35, 0, 8, 3], I 42], 1), (.str [106, 49], .agg [.str [2, 0, 10, 1, 97, 1, 1, 49,
   1, 98, 2, 1, 50, 6, 121, 1, 46, 3, 2, 0, 5, 1, 97, 3, 1, 51, 1, 204, 0, 154, 3], I 31], 2), (.str [116, 51], .agg [.str [2, 0, 1, 97, 3, 1, 51, 0, 1, 98, 2, 1, 50, 7, 75, 1, 52,
   1, 1, 97, 13, 0, 218, 0, 113, 0, 0, 0, 0, 0, 0, 0, 17, 0, 0, 0, 0, 0, 0, 0, 2, 115, 112, 111, 111, 114], I 46], 6)] 7)) (.node none (.node none N (.node none (.node none (.node
  none N (.node none N (.node (some (.cells 349 [.slice 947 0 1 1 true])) N N))) N) N)) N) N)))
noncomputable def m20_4 : Tmps := (.node (some (.bool false)) (.node (some (.ptr 7 0)) (.node (some (.ptr 413 0)) (.node none (.node (some (.ptr 77 0)) (.node (some (.bool false)) (.node (some (.bool false)) N N)
  (.node (some (.bool false)) N N)) (.node (some (.ptr 413 2)) (.node (some (I 1)) N N) N)) (.node (some (.bool false)) (.node (some (.bool true)) (.node (some (.ptr 77 0)) N N)
  (.node (some (I 4)) N N)) (.node (some (.bool false)) (.node (some (.slice 1066 0 1 1 false)) N N) N))) (.node (some (.tup [.ptr 7 0, .ptr 77 0])) (.node (some (.agg [.str [97],
  I 0, .str [49]])) (.node (some (.agg [.str [97], I 3, .str [51]])) (.node (some (I 0)) N N) (.node (some (.bool false)) N N)) (.node (some (.bool false)) (.node (some (.slice
  1060 0 1 1 false)) N N) N)) (.node (some (.agg [.str [97], I 0, .str [51]])) (.node (some (I 3)) (.node (some (.ptr 77 0)) N N) (.node (some (.ptr 77 0)) N N)) (.node (some
  (.bool false)) (.node (some (.bool false)) N N) N)))) (.node (some (I 3)) (.node none (.node (some (.bool false)) (.node (some (.ptr 77 0)) (.node (some (.bool false)) N N)
  (.node (some (.ptr 77 0)) N N)) (.node (some (.bool false)) (.node (some (.bool false)) N N) N)) (.node (some (.bool false)) (.node (some (.bool false)) (.node (some (.bool
  false)) N N) (.node (some (.bool false)) N N)) (.node (some (I 0)) (.node (some (.bool false)) N N) N))) (.node (some (.ptr 7 0)) (.node (some (.slice 128 0 2 2 false)) (.node
  (some (.ptr 77 0)) (.node (some (.bool false)) N N) (.node (some (.bool false)) N N)) (.node (some (.bool false)) (.node (some (.ptr 1060 1)) N N) N)) (.node (some (I 0)) (.node
  (some (.bool false)) (.node (some (.ptr 1065 0)) N N) (.node (some (.bool false)) N N)) (.node (some (.ptr 77 0)) (.node (some (I 4)) N N) N))))) (.node (some (.ptr 77 0))
  (.node (some (.bool true)) (.node none (.node (some (.bool false)) (.node (some (.tup [.agg [.str [97], I 3, .str [51]], .bool true])) (.node (some (.bool false)) N N) (.node
  (some (.bool false)) N N)) (.node (some (.str [51])) (.node (some (.bool false)) N N) N)) (.node (some (.bool false)) (.node (some (.bool false)) (.node (some (I 0)) N N) (.node
  (some (.bool false)) N N)) (.node (some (.ptr 77 0)) (.node (some (.bool true)) N N) N))) (.node (some (.tup [.ptr 7 0, .ptr 77 0])) (.node (some (.agg [.str [98], I 0, .str
  [50]])) (.node (some (.bool true)) (.node (some (.bool false)) N N) (.node (some (.bool false)) N N)) (.node (some (I 3)) (.node (some (.ptr 1060 0)) N N) N)) (.node (some
  (.slice 260 0 1 1 false)) (.node (some (.bool false)) (.node (some (.agg [.slice 1060 0 1 1 false, I 1, I 4])) N N) (.node (some (I 0)) N N)) (.node (some (.bool false)) (.node
  (some (.ptr 77 0)) N N) N)))) (.node (some (.ptr 1065 0)) (.node none (.node (some (.ptr 77 0)) (.node (some (.tup [.agg [.str [97], I 3, .str [51]], .bool true])) (.node (some
  (.ptr 77 0)) N N) (.node (some (I 4)) N N)) (.node (some (.bool false)) (.node (some (.ptr 1065 0)) N N) N)) (.node (some (.ptr 77 0)) (.node (some (.ptr 413 1)) (.node (some
  (.bool false)) N N) (.node (some (.bool false)) N N)) (.node (some (.bool false)) (.node (some (.bool false)) N N) N))) (.node (some (.ptr 77 0)) (.node (some (I 0)) (.node
  (some (I 3)) (.node (some (.bool false)) N N) (.node (some (.ptr 77 0)) N N)) (.node (some (.bool false)) (.node (some (.slice 1063 0 1 1 true)) N N) N)) (.node (some (.bool
  false)) (.node (some (.bool false)) (.node (some (.slice 1060 0 1 1 false)) N N) (.node (some (.bool false)) N N)) (.node (some (I 0)) (.node (some (.bool false)) N N) N))))))
noncomputable def h20_4 : Heap := (.node none (.node (some (.ro 261 [.sym 1])) (.node none (.node (some (.cells 189 [I 1048576, I 0, .bool false, .map 6, .nilf, .nils])) N (.node none N (.node none N (.node none
  (.node none N (.node none (.node (some (.cells 253 [.bool true, .nils])) N N) N)) N)))) (.node none (.node none (.node none (.node (some (.cells 269 [.ptr 7 0, I 0, .bool false,
  I 4])) N N) N) (.node none N (.node none (.node none N (.node none N (.node (some (.cells 352 [.str [97], .slice 945 0 2 2 true])) N N))) N))) (.node none N (.node none (.node
  (some (.cells 152 [.ptr 695 0])) N N) N)))) (.node none (.node none (.node none N (.node none N (.node none (.node none N (.node none N (.node (some (.cells 38 [.str [97], I 3,
  .str [51], .str [98], I 2, .str [50]])) N N))) N))) N) (.node (some (.cells 246 [.ptr 7 0, I 0, .bool false, .slice 1210 0 1 1 false, I 4, I 5, I 56])) N (.node none (.node none
  (.node (some (.cells 58 [.ptr 7 0, .ptr 13 0, .ptr 67 0, .slice 91 0 1 1 true, .map 76, I 3])) N N) N) (.node none N (.node none (.node none N (.node none (.node none (.node
  (some (.cells 3 [I 3])) N N) N) N)) N)))))) (.node none (.node none N (.node none N (.node none (.node none (.node (some (.map [(I 3, .ptr 914 0, 1)] 2)) N N) N) N))) (.node
  (some (.map [(.str [109], .agg [.str [2, 0, 5, 1, 2, 1, 0, 0, 0, 21, 0, 5, 3, 2, 0, 6, 1, 1, 0, 2, 0, 0, 0, 23, 0, 5, 3, 2, 0, 7, 1, 2, 0, 0, 1, 3, 0, 0, 35, 0, 8, 3, 2, 0, 6, 1,
   5, 0, 4, 0, 0, 0, 49, 0, 11, 3], I 56], 1), (.str [116, 51], .agg [.str [2, 0, 1, 97, 3, 1, 51, 0, 1, 98, 2, 1, 50, 7, 75, 1, 52, 1, 1, 97, 13, 0, 218, 0, 113, 0, 0, 0, 0, 0, 0,
   0, 17, 0, 0, 0, 0, 0, 0, 0, 2, 115, 112, 111, 111, 114], I 46], 6)] 7)) (.node none (.node none N (.node none (.node none (.node none N (.node none N (.node (some (.cells 349
  [.slice 947 0 1 1 true])) N N))) N) N)) (.node none N (.node none N (.node none (.node none N (.node none (.node none (.node (some (.cells 150 [.str [], .slice 1213 0 1 1
  true])) N N) N) N)) N)))) N)))
noncomputable def m20_5 : Tmps := (.node (some (.bool true)) (.node (some (.ptr 7 0)) (.node (some (.ptr 413 0)) (.node (some (.ptr 1483 0)) (.node (some (.ptr 77 0)) (.node (some (.bool false)) (.node (some
  (.bool false)) (.node (some (.ptr 1483 0)) N N) N) (.node (some (.bool false)) N N)) (.node (some (.ptr 413 2)) (.node (some (I 1)) (.node (some (.bool true)) N N) N) (.node
  (some (.ptr 7 0)) N N))) (.node (some (.bool false)) (.node (some (.bool true)) (.node (some (.ptr 77 0)) (.node (some (.bool true)) N N) N) (.node (some (I 4)) N N)) (.node
  (some (.bool false)) (.node (some (.slice 1066 0 1 1 false)) (.node (some (.bool true)) N N) N) (.node (some (.bool false)) N N)))) (.node (some (.tup [.ptr 7 0, .ptr 77 0]))
  (.node (some (.agg [.str [97], I 0, .str [49]])) (.node (some (.agg [.str [97], I 3, .str [51]])) (.node (some (I 0)) (.node (some (.tup [.slice 1669 0 2 2 true, I 0])) N N) N)
  (.node (some (.bool false)) N N)) (.node (some (.bool false)) (.node (some (.slice 1060 0 1 1 false)) (.node (some (.ptr 1669 0)) N N) N) (.node (some (.ptr 7 0)) N N))) (.node
  (some (.agg [.str [97], I 0, .str [51]])) (.node (some (I 3)) (.node (some (.ptr 77 0)) (.node (some (.bool true)) N N) N) (.node (some (.ptr 77 0)) N N)) (.node (some (.bool
  false)) (.node (some (.bool false)) (.node (some (.ptr 1669 5)) N N) N) (.node (some (.bool false)) N N))))) (.node (some (I 3)) (.node (some (.slice 1669 0 2 2 true)) (.node
  (some (.bool false)) (.node (some (.ptr 77 0)) (.node (some (.bool false)) (.node (some (.tup [.slice 1669 0 2 2 true, I 0])) N N) N) (.node (some (.ptr 77 0)) N N)) (.node
  (some (.bool false)) (.node (some (.bool false)) (.node (some (.bool true)) N N) N) (.node (some (.bool false)) N N))) (.node (some (.bool false)) (.node (some (.bool false))
  (.node (some (.bool false)) (.node (some (I 0)) N N) N) (.node (some (.bool false)) N N)) (.node (some (I 0)) (.node (some (.bool false)) (.node (some (.slice 1669 0 2 2 true))
  N N) N) (.node (some (I 51)) N N)))) (.node (some (.ptr 7 0)) (.node (some (.slice 128 0 2 2 false)) (.node (some (.ptr 77 0)) (.node (some (.bool false)) (.node (some (I 0)) N
  N) N) (.node (some (.bool false)) N N)) (.node (some (.bool false)) (.node (some (.ptr 1060 1)) (.node (some (.str [51])) N N) N) (.node (some (.bool false)) N N))) (.node (some
  (I 0)) (.node (some (.bool false)) (.node (some (.ptr 1065 0)) (.node (some (.slice 1669 0 2 2 true)) N N) N) (.node (some (.bool false)) N N)) (.node (some (.ptr 77 0)) (.node
  (some (I 4)) (.node (some (.bool true)) N N) N) (.node (some (.ptr 7 0)) N N)))))) (.node (some (.ptr 77 0)) (.node (some (.bool true)) (.node (some (I 0)) (.node (some (.bool
  false)) (.node (some (.tup [.agg [.str [97], I 3, .str [51]], .bool true])) (.node (some (.bool false)) (.node (some (I 0)) N N) N) (.node (some (.bool false)) N N)) (.node
  (some (.str [51])) (.node (some (.bool false)) (.node (some (.bool true)) N N) N) (.node (some (I 0)) N N))) (.node (some (.bool false)) (.node (some (.bool false)) (.node (some
  (I 0)) (.node (some (.bool true)) N N) N) (.node (some (.bool false)) N N)) (.node (some (.ptr 77 0)) (.node (some (.bool true)) (.node (some (.bool true)) N N) N) (.node (some
  (.ptr 77 0)) N N)))) (.node (some (.tup [.ptr 7 0, .ptr 77 0])) (.node (some (.agg [.str [98], I 0, .str [50]])) (.node (some (.bool true)) (.node (some (.bool false)) (.node
  (some (.slice 1669 0 2 2 true)) N N) N) (.node (some (.bool false)) N N)) (.node (some (I 3)) (.node (some (.ptr 1060 0)) (.node (some (.ptr 1669 2)) N N) N) (.node (some (I 0))
  N N))) (.node (some (.slice 260 0 1 1 false)) (.node (some (.bool false)) (.node (some (.agg [.slice 1060 0 1 1 false, I 1, I 4])) (.node (some (.bool true)) N N) N) (.node
  (some (I 0)) N N)) (.node (some (.bool false)) (.node (some (.ptr 77 0)) (.node (some (.str [50])) N N) N) (.node (some (.tup [.ptr 1483 0, I 0])) N N))))) (.node (some (.ptr
  1065 0)) (.node (some (I 0)) (.node (some (.ptr 77 0)) (.node (some (.tup [.agg [.str [97], I 3, .str [51]], .bool true])) (.node (some (.ptr 77 0)) (.node (some (.ptr 1483 0))
  N N) N) (.node (some (I 4)) N N)) (.node (some (.bool false)) (.node (some (.ptr 1065 0)) (.node (some (.slice 1669 0 2 2 true)) N N) N) (.node (some (.bool false)) N N)))
  (.node (some (.ptr 77 0)) (.node (some (.ptr 413 1)) (.node (some (.bool false)) (.node (some (.bool true)) N N) N) (.node (some (.bool false)) N N)) (.node (some (.bool false))
  (.node (some (.bool false)) (.node (some (.ptr 1669 3)) N N) N) (.node (some (.bool false)) N N)))) (.node (some (.ptr 77 0)) (.node (some (I 0)) (.node (some (I 3)) (.node
  (some (.bool false)) (.node (some (I 0)) N N) N) (.node (some (.ptr 77 0)) N N)) (.node (some (.bool false)) (.node (some (.slice 1063 0 1 1 true)) (.node (some (.bool true)) N
  N) N) (.node (some (.bool false)) N N))) (.node (some (.bool false)) (.node (some (.bool false)) (.node (some (.slice 1060 0 1 1 false)) (.node (some (I 2)) N N) N) (.node (some
  (.bool false)) N N)) (.node (some (I 0)) (.node (some (.bool false)) (.node (some (.bool true)) N N) N) (.node (some (.tup [.ptr 1483 0, I 0])) N N)))))))
noncomputable def h20_5 : Heap := (.node none (.node (some (.ro 261 [.sym 1])) N N) N)
end Go.Proofs.YthkcicilmhpfjaaGreatDoor

/- The run of 20: piece 1. -/
namespace Go.Proofs.YthkcicilmhpfjaaGreatDoor
open Go.Eng

set_option maxRecDepth 1000000 in
theorem r20_1 : cdEq (codeK Tryz.prog smAll 100000 159 [1, 6, 7, 12, 13, 67, 76, 77, 89, 91, 224, 367] ((p20.drop 0).take 4) m20_0 [] h20_0 6) (.mk .norm m20_1 [] h20_1 368) = true := by decide +kernel
end Go.Proofs.YthkcicilmhpfjaaGreatDoor

/- The run of 20: piece 2. -/
namespace Go.Proofs.YthkcicilmhpfjaaGreatDoor
open Go.Eng

set_option maxRecDepth 1000000 in
theorem r20_2 : cdEq (codeK Tryz.prog smAll 100000 159 [1, 6, 7, 12, 13, 67, 76, 77, 89, 91, 224, 367, 413] ((p20.drop 4).take 2) m20_1 [] h20_1 368) (.mk .norm m20_2 [] h20_2 414) = true := by decide +kernel
end Go.Proofs.YthkcicilmhpfjaaGreatDoor

/- The run of 20: piece 3. -/
namespace Go.Proofs.YthkcicilmhpfjaaGreatDoor
open Go.Eng

set_option maxRecDepth 1000000 in
theorem r20_3 : cdEq (codeK Tryz.prog smAll 100000 159 [1, 6, 7, 13, 67, 76, 77, 91, 695, 914, 945, 947, 985, 988] ((p20.drop 6).take 1) m20_2 [] h20_2 414) (.mk .norm m20_3 [] h20_3 1051) = true := by decide +kernel
end Go.Proofs.YthkcicilmhpfjaaGreatDoor

/- The run of 20: piece 4. -/
namespace Go.Proofs.YthkcicilmhpfjaaGreatDoor
open Go.Eng

set_option maxRecDepth 1000000 in
theorem r20_4 : cdEq (codeK Tryz.prog smAll 100000 159 [1, 6, 7, 13, 67, 76, 77, 91, 695, 914, 945, 947, 1210, 1213] ((p20.drop 7).take 4) m20_3 [] h20_3 1051) (.mk .norm m20_4 [] h20_4 1255) = true := by decide +kernel
end Go.Proofs.YthkcicilmhpfjaaGreatDoor

/- The run of 20: piece 5. -/
namespace Go.Proofs.YthkcicilmhpfjaaGreatDoor
open Go.Eng

set_option maxRecDepth 1000000 in
theorem r20_5 : cdEq (codeK Tryz.prog smAll 100000 159 [1] (p20.drop 11) m20_4 [] h20_4 1255) (.mk .ret m20_5 [] h20_5 1670) = true := by decide +kernel
end Go.Proofs.YthkcicilmhpfjaaGreatDoor

/- The run of 20, whole: it returns true, and nothing that was there has turned. -/
namespace Go.Proofs.YthkcicilmhpfjaaGreatDoor
open Go.Eng Go.RowKit

set_option maxRecDepth 1000000 in
theorem lives20_any {η : Env} {w : World} (h0 : RoHeap Tryz.prog η h20_0 w) : Calls Tryz.prog 14 #[] w fun e w' => e = .returned (.bool true) ∧ Eng.Kept (fun _ => False) w w' := by
  have hk : ∀ n o, h20_0.get n = some o → ∃ t cs, h20_5.get n = some (.ro t cs) := fun n o hn => by
    have hb := ro_names (h0 n o hn).1 hn (by decide +kernel : roSame Tryz.prog.globals.size h20_0 h20_5 = true)
    exact hb
  refine calls_of_wp Tryz.func14 (c := _) rfl (wp_flat (w := w) ?_)
  have hp : flat _ [] = p20 := rfl
  rw [hp]
  have s0 := start_ok h0
  rw [show Tryz.prog.globals.size = 6 by kernel_rfl] at s0
  rw [show p20 = p20.drop 0 by simp]
  refine piece (l := p20) mixed noGo (smAll_ok (η := η)) (by decide) r20_1 s0 noArgs rfl fun s1 a1 x1 d1 t1 w1 => ?_
  refine piece (l := p20) mixed noGo (smAll_ok (η := η)) (by decide) r20_2 w1.rel t1 d1 fun s2 a2 x2 d2 t2 w2 => ?_
  refine piece (l := p20) mixed noGo (smAll_ok (η := η)) (by decide) r20_3 w2.rel t2 d2 fun s3 a3 x3 d3 t3 w3 => ?_
  refine piece (l := p20) mixed noGo (smAll_ok (η := η)) (by decide) r20_4 w3.rel t3 d3 fun s4 a4 x4 d4 t4 w4 => ?_
  refine last_piece (l := p20) mixed noGo (smAll_ok (η := η)) (by decide) r20_5 w4.rel t4 d4 (v := .bool true) (by rfl) fun s u x hu W => ?_
  rw [conc_bool] at hu
  subst hu
  exact ⟨rfl, end_ok h0 (by rw [show Tryz.prog.globals.size = 6 by kernel_rfl]; exact ((((w1.trans w2).trans w3).trans w4).trans W)) hk⟩
end Go.Proofs.YthkcicilmhpfjaaGreatDoor

/- StoreNone, walked: at every input it returns true. -/
namespace Go.Proofs.YthkcicilmhpfjaaGreatDoor
open Go.RowKit Go.Shelf Go.Lib Go.Eng

noncomputable def exSto : Nat → Option (List AV → Heap → Nat → Option CRes) := fun n => bif Nat.beq n 14 then some livesS else none
noncomputable def p4 : List Code := match Tryz.f4.body with | some b => flat b [] | none => []
noncomputable def a4 : List AV := [.sym 2, .sym 3, .sym 4, uv, uv, uv, .bool false, uv, uv, uv, uv, uv, uv, uv, uv, uv, uv, uv, uv, .sym 2, .bool false, .bool false, .sym 4, .sym 5, .bool false, .bool false] ++ List.replicate 118 uv

theorem exSto_ok {η : Env} : SmOk Tryz.prog η (smMore exSto) := by
  refine smMore_ok fun f g hg args h c v h' c' he σ w avs H ha => ?_
  unfold exSto at hg
  cases e : Nat.beq f 14 with
  | true =>
    simp only [e, cond_true, Option.some.injEq] at hg
    subst hg
    have := Nat.eq_of_beq_eq_true e
    subst this
    exact leads_of noGo Tryz.func14 (by kernel_rfl) (livesS_ok (f := 14) (fun R => lives20_any R) he H ha)
  | false => simp [e] at hg

set_option maxRecDepth 1000000 in
theorem sto_eval : isRet Tryz.prog 6 hG Tryz.f4.results.toList (.bool true) (codeL Tryz.prog (smMore exSto) 100000 144 (p4.drop 3) (initF 0 a4 .nil) [] hG 6) = true := by decide +kernel

def seen4 (l : Value) (a : Int) (k : ByteArray) : List Value := [l, .int .i64 a, .string k, undef, undef, undef, .bool false, undef, undef, undef, undef, undef, undef, undef, undef, undef, undef, undef, undef, l, .bool false, .bool false, .string k, .int .i64 k.size, .bool false, .bool false] ++ List.replicate 118 undef

theorem concs_rep {σ : Sig} {η : Env} : ∀ n, concs σ η (List.replicate n uv) = some (List.replicate n undef)
  | 0 => rfl
  | n + 1 => by rw [List.replicate_succ, List.replicate_succ]; exact concs_cons.2 ⟨_, _, conc_uv, concs_rep n, rfl⟩

set_option maxRecDepth 1000000 in
theorem storeNone_any {η : Env} {l : Value} {a : Int} {k : ByteArray} {L : List Cl} {w : World} (h2 : η.val 2 = l) (h3 : η.val 3 = .int .i64 a) (h4 : η.val 4 = .string k) (h5 : η.val 5 = .int .i64 k.size) (h0 : RoHeap Tryz.prog η hG w)
    (hr : ReadsC w l L) (hl : L.length ≤ 9223372036854775807) (hfit : ∀ y ∈ L, y.ke.size ≤ 9223372036854775807 ∧ y.va.size ≤ 9223372036854775807) :
    Calls Tryz.prog 4 #[l, .int .i64 a, .string k] w fun e w' => e = .returned (.bool true) ∧ Eng.Kept (fun _ => False) w w' := by
  have hsl : symOk l = true := by obtain ⟨ao, cap, rfl, _⟩ := hr; rfl
  have C := Lib.hid (beyond_any 20 hr hl hfit)
  have C2 := Lib.hid (lives20_any h0)
  go_enter Tryz.func4, Tryz.ntmps4
  refine wp_flat (w := w) ?_
  have hp : flat _ [] = p4 := rfl
  rw [hp]
  refine wpL_split 3 ?_
  obtain ⟨R, hR⟩ : ∃ R, wpL Tryz.prog (bodyPost Tryz.prog Tryz.f4 fun e w' => e = .returned (.bool true) ∧ Eng.Kept (fun _ => False) w w') (p4.drop 3) = R := ⟨_, rfl⟩
  rw [hR]
  have key : ∀ (t : Array Value) (w' : World), t = (seen4 l a k).toArray → w = w' → R ⟨t, []⟩ w' := by
    rintro t w' rfl rfl
    rw [← hR]
    have hz : (seen4 l a k).length = 144 := rfl
    have G : Tryz.prog.globals.size = 6 := by kernel_rfl
    have hc : concs (sig0 6) η a4 = some (seen4 l a k) := by
      have e2 : ∀ σ, conc σ η (.sym 2) = some l := fun σ => by simp only [conc, h2]; exact if_pos hsl
      have e3 : ∀ σ, conc σ η (.sym 3) = some (.int .i64 a) := fun σ => by simp only [conc, h3]; rfl
      have e4 : ∀ σ, conc σ η (.sym 4) = some (.string k) := fun σ => by simp only [conc, h4]; rfl
      have e5 : ∀ σ, conc σ η (.sym 5) = some (.int .i64 k.size) := fun σ => by simp only [conc, h5]; rfl
      have e0 : concs (sig0 6) η (List.replicate 118 uv) = some (List.replicate 118 undef) := concs_rep 118
      refine concs_append ?_ e0
      have e6 : ∀ σ, conc σ η (.bool false) = some (.bool false) := fun σ => rfl
      simp only [concs, e2, e3, e4, e5, e6, conc_uv]
    refine last_plain (nt := 144) (k := 6) (v := .bool true) mixed noGo (exSto_ok (η := η)) (by decide) sto_eval (by have := start_ok h0; rwa [G] at this) (hz ▸ tr_init hc (by rw [hz]; decide)) rfl ?_
    intro σ' u w' h' c' hu W hs
    rw [conc_bool] at hu
    subst hu
    exact ⟨rfl, end_ok h0 (by rw [G]; exact W) fun n o hn => ro_names (h0 n o hn).1 hn (by rw [G]; exact hs)⟩
  have e3 : p4.take 3 = (flat (Tryz.f4.body.get rfl) []).take 3 := rfl
  rw [e3]
  clear hR e3
  simp only [Tryz.f4, Option.get_some, flat, List.take_succ_cons, List.take_zero, wpL]
  by_cases hk2 : (100 : Int) < (k.size : Int)
  · go_wp2_with (first | (go_at_call 13; refine C.out.mono ?_; rintro e w4 ⟨⟨r, rfl⟩, rfl⟩; cases r) | (go_at_call 14; refine C2.out.mono ?_; rintro e w4 ⟨rfl, k4⟩))
    all_goals (go_ret; exact ⟨rfl, by assumption⟩)
  · go_wp2_with (first | (go_at_call 13; refine C.out.mono ?_; rintro e w4 ⟨⟨r, rfl⟩, rfl⟩; cases r) | (go_at_call 14; refine C2.out.mono ?_; rintro e w4 ⟨rfl, k4⟩))
    · refine key _ _ ?_ rfl
      rw [show decide ((100 : Int) < (k.size : Int)) = false by simpa using hk2]
      rfl
    · go_ret
      exact ⟨rfl, by assumption⟩
end Go.Proofs.YthkcicilmhpfjaaGreatDoor

