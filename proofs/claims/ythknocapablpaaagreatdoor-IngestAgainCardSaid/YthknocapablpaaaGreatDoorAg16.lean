/- A part of the proof. -/
import Derived.Test.YthknocapablpaaaGreatDoorAg13

/- The run of 22: the states between its pieces. -/
namespace Go.Proofs.YthknocapablpaaaGreatDoor
open Go.Eng
noncomputable def p22 : List Code := match Tryz.f10.body with | some b => flat b [] | none => []
noncomputable def h22_0 : Heap := (.node none (.node (some (.ro 265 [.sym 1])) N N) N)
noncomputable def m22_0 : Tmps := N
noncomputable def m22_1 : Tmps := (.node (some (.bool false)) (.node (some (.ptr 7 0)) (.node none N (.node none (.node (some (.ptr 77 0)) N N) N)) (.node none (.node none (.node (some (.tup [.ptr 7 0, .ptr 77
 0])) N N) N) N)) (.node (some (.ptr 77 0)) (.node none (.node none (.node (some (.tup [.ptr 7 0, .ptr 77 0])) N N) N) N) (.node none (.node none (.node (some (.ptr 7 0)) N N) N)
 N)))
noncomputable def h22_1 : Heap := (.node none (.node (some (.ro 265 [.sym 1])) (.node none (.node (some (.cells 112 [I 1048576, I 0, .bool false, .map 6, .nilf, .nils])) N N) (.node none (.node none (.node none
 (.node (some (.cells 199 [.ptr 7 0, I 0, .bool false, I 1])) N N) N) N) (.node none N (.node none (.node (some (.cells 127 [.ptr 89 0])) N N) N)))) (.node none (.node none N
 (.node none N (.node none (.node (some (.cells 208 [.bool true, .nils])) N N) N))) (.node (some (.cells 195 [.ptr 7 0, I 0, .bool false, .slice 12 0 1 1 false, I 1, I 2, I 13]))
 N (.node none (.node none (.node (some (.cells 126 [.ptr 7 0, .ptr 13 0, .ptr 67 0, .slice 91 0 1 1 true, .map 76, I 0])) N N) N) N)))) (.node none (.node none N (.node (some
 (.cells 215 [.str [], .nils])) N (.node none (.node none (.node (some (.map [] 0)) N N) N) N))) (.node (some (.map [(.str [109], .agg [.str [2, 0, 5, 1, 2, 1, 0, 0, 0, 21, 0, 5,
 3], I 13], 1)] 2)) N N)))
noncomputable def m22_2 : Tmps := (.node (some (.bool false)) (.node (some (.ptr 7 0)) (.node (some (.ptr 129 0)) (.node none N (.node (some (.agg [I 0, I 5, .slice 128 0 2 2 false])) N N)) (.node none (.node
 (some (.ptr 77 0)) N N) (.node (some (.tup [.agg [I 0, I 5, I 7], I 2, I 0])) N N))) (.node (some (I 2)) (.node none (.node (some (.tup [.ptr 7 0, .ptr 77 0])) N N) (.node (some
 (.ptr 77 0)) N N)) (.node none (.node (some (.bool false)) N N) (.node (some (I 2)) N N)))) (.node (some (.ptr 77 0)) (.node (some (.ptr 634 0)) (.node none (.node (some (.tup
 [.ptr 7 0, .ptr 77 0])) N N) (.node (some (.tup [.agg [I 0, I 5, I 7], I 2, I 0])) N N)) (.node none (.node (some (.ptr 77 0)) N N) (.node (some (.agg [I 0, I 5, I 7])) N N)))
 (.node (some (I 0)) (.node none (.node (some (.ptr 7 0)) N N) (.node (some (.agg [I 0, I 5, .slice 128 0 2 2 false])) N N)) (.node none (.node (some (.slice 128 0 2 2 false)) N
 N) (.node (some (I 0)) N N)))))
noncomputable def h22_2 : Heap := (.node none (.node (some (.ro 265 [.sym 1])) (.node none (.node (some (.cells 112 [I 1048576, I 0, .bool false, .map 6, .nilf, .nils])) N N) (.node none (.node none (.node none
 (.node (some (.cells 199 [.ptr 7 0, I 0, .bool false, I 1])) N N) N) N) (.node none N (.node none (.node (some (.cells 127 [.ptr 89 0])) N N) N)))) (.node none (.node none
 (.node none (.node none (.node none (.node (some (.cells 34 [I 0, I 5, .slice 128 0 2 2 false])) (.node none (.node (some (.cells 305 [.slice 633 0 4 4 true])) N N) N) N) N) N)
 N) (.node none N (.node none (.node (some (.cells 208 [.bool true, .slice 513 0 1 1 false])) N N) (.node none N (.node none (.node none (.node (some (.cells 132 [.str [115, 0, 0,
  0, 0, 0, 0, 0, 3, 0, 0, 0, 0, 0, 0, 0, 1], I 1, .str [3, 1, 0, 10, 0, 1, 97, 1, 104, 0], .str [115, 0, 0, 0, 0, 0, 0, 0, 3, 0, 0, 0, 0, 0, 0, 0, 2], I 3, .str [3, 2, 1, 11, 0,
 1, 97, 1, 104, 0], .str [120, 97, 0, 104, 0, 0, 0, 0, 0, 0, 0, 0, 10, 0, 0, 0, 0, 0, 0, 0, 3, 0, 0, 0, 0, 0, 0, 0, 1], I 2, .str [], .str [120, 97, 0, 104, 0, 0, 0, 0, 0, 0, 0,
 0, 11, 0, 0, 0, 0, 0, 0, 0, 3, 0, 0, 0, 0, 0, 0, 0, 2], I 4, .str []])) N N) N) N))))) (.node (some (.cells 195 [.ptr 7 0, I 0, .bool false, .slice 12 0 1 1 false, I 1, I 2, I
 13])) N (.node none (.node none (.node (some (.cells 126 [.ptr 7 0, .ptr 13 0, .ptr 67 0, .slice 91 0 1 1 true, .map 76, I 4])) N N) N) N)))) (.node none (.node none (.node none
 (.node none (.node none (.node none (.node (some (.cells 96 [I 3, I 1, I 0, .str [97], .str [104], I 10, I 0, .str [], I 3, I 2, I 1, .str [97], .str [104], I 11, I 0, .str
 []])) N N) N) N) N) N) (.node (some (.cells 215 [.str [], .nils])) N (.node none (.node none (.node (some (.map [] 0)) N N) N) N))) (.node (some (.map [(.str [109], .agg [.str
 [2, 0, 5, 1, 2, 1, 0, 0, 0, 21, 0, 5, 3], I 13], 1), (.str [106, 49], .agg [.str [2, 0, 124, 17, 115, 0, 0, 0, 0, 0, 0, 0, 3, 0, 0, 0, 0, 0, 0, 0, 1, 1, 10, 3, 1, 0, 10, 0, 1,
 97, 1, 104, 0, 29, 120, 97, 0, 104, 0, 0, 0, 0, 0, 0, 0, 0, 10, 0, 0, 0, 0, 0, 0, 0, 3, 0, 0, 0, 0, 0, 0, 0, 1, 2, 0, 17, 115, 0, 0, 0, 0, 0, 0, 0, 3, 0, 0, 0, 0, 0, 0, 0, 2, 3,
 10, 3, 2, 1, 11, 0, 1, 97, 1, 104, 0, 29, 120, 97, 0, 104, 0, 0, 0, 0, 0, 0, 0, 0, 11, 0, 0, 0, 0, 0, 0, 0, 3, 0, 0, 0, 0, 0, 0, 0, 2, 4, 0, 134, 46, 5, 191, 3], I 132], 2)] 3))
 (.node none N (.node none N (.node none N (.node none N (.node none (.node none (.node (some (.cells 38 [I 0, I 5, I 7])) N N) N) N))))) N)))
noncomputable def m22_3 : Tmps := (.node (some (.bool false)) (.node (some (.ptr 7 0)) (.node (some (.ptr 129 0)) (.node (some (.ptr 985 0)) (.node none (.node (some (.tup [.agg [I 0, I 5, I 7], I 0, I 0])) N N)
 N) (.node (some (.agg [I 0, I 5, .slice 128 0 2 2 false])) N N)) (.node none (.node (some (.ptr 77 0)) (.node (some (.agg [I 0, I 5, I 7])) N N) N) (.node (some (.tup [.agg [I 0,
  I 5, I 7], I 2, I 0])) N N))) (.node (some (I 2)) (.node (some (I 0)) (.node (some (.tup [.ptr 7 0, .ptr 77 0])) (.node (some (.agg [I 0, I 5, .slice 128 0 2 2 false])) N N) N)
 (.node (some (.ptr 77 0)) N N)) (.node none (.node (some (.bool false)) (.node (some (I 0)) N N) N) (.node (some (I 2)) N N)))) (.node (some (.ptr 77 0)) (.node (some (.ptr 634
 0)) (.node (some (I 0)) (.node (some (.tup [.ptr 7 0, .ptr 77 0])) (.node (some (.ptr 77 0)) N N) N) (.node (some (.tup [.agg [I 0, I 5, I 7], I 2, I 0])) N N)) (.node none
 (.node (some (.ptr 77 0)) (.node (some (I 0)) N N) N) (.node (some (.agg [I 0, I 5, I 7])) N N))) (.node (some (I 0)) (.node none (.node (some (.ptr 7 0)) (.node (some (.tup
 [.agg [I 0, I 5, I 7], I 0, I 0])) N N) N) (.node (some (.agg [I 0, I 5, .slice 128 0 2 2 false])) N N)) (.node none (.node (some (.slice 128 0 2 2 false)) N N) (.node (some (I
 0)) N N)))))
noncomputable def h22_3 : Heap := (.node none (.node (some (.ro 265 [.sym 1])) (.node none (.node (some (.cells 112 [I 1048576, I 0, .bool false, .map 6, .nilf, .nils])) N N) (.node none (.node none (.node none
 (.node (some (.cells 199 [.ptr 7 0, I 0, .bool false, I 1])) N N) N) N) (.node none N (.node none (.node (some (.cells 127 [.ptr 89 0])) N N) N)))) (.node none (.node none
 (.node none (.node none (.node none (.node none (.node none (.node (some (.cells 305 [.slice 633 0 4 4 true])) N N) N) N) N) N) N) (.node none N (.node none (.node (some (.cells
 208 [.bool true, .slice 513 0 1 1 false])) N (.node none N (.node none N (.node (some (.cells 38 [I 0, I 5, I 7])) N N)))) (.node none N (.node none (.node none (.node (some
 (.cells 132 [.str [115, 0, 0, 0, 0, 0, 0, 0, 3, 0, 0, 0, 0, 0, 0, 0, 1], I 1, .str [3, 1, 0, 10, 0, 1, 97, 1, 104, 0], .str [115, 0, 0, 0, 0, 0, 0, 0, 3, 0, 0, 0, 0, 0, 0, 0, 2],
  I 3, .str [3, 2, 1, 11, 0, 1, 97, 1, 104, 0], .str [120, 97, 0, 104, 0, 0, 0, 0, 0, 0, 0, 0, 10, 0, 0, 0, 0, 0, 0, 0, 3, 0, 0, 0, 0, 0, 0, 0, 1], I 2, .str [], .str [120, 97, 0,
  104, 0, 0, 0, 0, 0, 0, 0, 0, 11, 0, 0, 0, 0, 0, 0, 0, 3, 0, 0, 0, 0, 0, 0, 0, 2], I 4, .str []])) N N) N) N))))) (.node (some (.cells 195 [.ptr 7 0, I 0, .bool false, .slice 12
 0 1 1 false, I 1, I 2, I 13])) N (.node none (.node none (.node (some (.cells 126 [.ptr 7 0, .ptr 13 0, .ptr 67 0, .slice 91 0 1 1 true, .map 76, I 4])) N N) N) N)))) (.node
 none (.node none N (.node (some (.cells 215 [.str [], .nils])) N (.node none (.node none (.node (some (.map [] 0)) N N) N) N))) (.node (some (.map [(.str [109], .agg [.str [2, 0,
  5, 1, 2, 1, 0, 0, 0, 21, 0, 5, 3], I 13], 1), (.str [106, 49], .agg [.str [2, 0, 124, 17, 115, 0, 0, 0, 0, 0, 0, 0, 3, 0, 0, 0, 0, 0, 0, 0, 1, 1, 10, 3, 1, 0, 10, 0, 1, 97, 1,
 104, 0, 29, 120, 97, 0, 104, 0, 0, 0, 0, 0, 0, 0, 0, 10, 0, 0, 0, 0, 0, 0, 0, 3, 0, 0, 0, 0, 0, 0, 0, 1, 2, 0, 17, 115, 0, 0, 0, 0, 0, 0, 0, 3, 0, 0, 0, 0, 0, 0, 0, 2, 3, 10, 3,
 2, 1, 11, 0, 1, 97, 1, 104, 0, 29, 120, 97, 0, 104, 0, 0, 0, 0, 0, 0, 0, 0, 11, 0, 0, 0, 0, 0, 0, 0, 3, 0, 0, 0, 0, 0, 0, 0, 2, 4, 0, 134, 46, 5, 191, 3], I 132], 2)] 3)) (.node
 none N (.node none N (.node none N (.node none N (.node none (.node none (.node (some (.cells 38 [I 0, I 5, I 7])) N N) N) N))))) N)))
noncomputable def m22_4 : Tmps := (.node (some (.bool true)) (.node (some (.ptr 7 0)) (.node (some (.ptr 129 0)) (.node (some (.ptr 985 0)) (.node (some (I 2)) (.node (some (.tup [.agg [I 0, I 5, I 7], I 0, I 0]))
 (.node (some (.bool true)) N N) N) (.node (some (.slice 990 0 2 2 false)) (.node (some (.bool true)) N N) N)) (.node (some (.agg [I 0, I 5, .slice 128 0 2 2 false])) (.node
 (some (.ptr 77 0)) (.node (some (.bool true)) N N) N) (.node (some (.bool true)) (.node (some (.slice 1168 0 2 2 true)) N N) N))) (.node (some (I 0)) (.node (some (.ptr 77 0))
 (.node (some (.agg [I 0, I 5, I 7])) (.node (some (.bool true)) N N) N) (.node (some (I 0)) (.node (some (.bool true)) N N) N)) (.node (some (.tup [.agg [I 0, I 5, I 7], I 2, I
 0])) (.node (some (I 0)) (.node (some (.bool true)) N N) N) (.node (some (.bool true)) N N)))) (.node (some (I 2)) (.node (some (I 0)) (.node (some (.tup [.ptr 7 0, .ptr 77 0]))
 (.node (some (.agg [I 0, I 5, .slice 128 0 2 2 false])) (.node (some (.agg [I 0, I 5, I 7])) N N) N) (.node (some (.tup [.agg [I 0, I 0, I 0], I 0, I 2])) (.node (some (.bool
 true)) N N) N)) (.node (some (.ptr 77 0)) (.node (some (.tup [.agg [I 0, I 0, I 0], I 0, I 3])) (.node (some (.bool true)) N N) N) (.node (some (I 2)) (.node (some (.bool true))
 N N) N))) (.node (some (.ptr 994 0)) (.node (some (.bool false)) (.node (some (I 0)) (.node (some (.bool true)) N N) N) (.node (some (.agg [I 0, I 5, I 7])) (.node (some (.bool
 true)) N N) N)) (.node (some (I 2)) (.node (some (.tup [.agg [I 0, I 0, I 0], I 0, I 2])) (.node (some (.bool true)) N N) N) (.node (some (I 0)) N N))))) (.node (some (.ptr 77
 0)) (.node (some (.ptr 634 0)) (.node (some (I 0)) (.node (some (.tup [.ptr 7 0, .ptr 77 0])) (.node (some (.ptr 77 0)) (.node (some (.bool true)) N N) N) (.node (some (.agg [I
 4, I 0, .slice 990 0 2 2 false])) (.node (some (.bool true)) N N) N)) (.node (some (.tup [.agg [I 0, I 5, I 7], I 2, I 0])) (.node (some (.agg [I 0, I 0, .nils])) (.node (some
 (.bool true)) N N) N) (.node (some (.bool true)) (.node (some (I 2)) N N) N))) (.node (some (I 3)) (.node (some (.ptr 77 0)) (.node (some (I 0)) (.node (some (.bool true)) N N)
 N) (.node (some (I 2)) (.node (some (.bool true)) N N) N)) (.node (some (.agg [I 0, I 5, I 7])) (.node (some (I 3)) (.node (some (.bool true)) N N) N) (.node (some (.bool true))
 N N)))) (.node (some (I 0)) (.node (some (.ptr 989 0)) (.node (some (.ptr 7 0)) (.node (some (.tup [.agg [I 0, I 5, I 7], I 0, I 0])) (.node (some (.agg [I 0, I 5, I 7])) N N)
 N) (.node (some (.agg [I 0, I 0, I 0])) (.node (some (I 2)) N N) N)) (.node (some (.agg [I 0, I 5, .slice 128 0 2 2 false])) (.node (some (.agg [I 0, I 0, I 0])) (.node (some (I
 0)) N N) N) (.node (some (.bool true)) (.node (some (.bool true)) N N) N))) (.node (some (I 0)) (.node (some (.slice 128 0 2 2 false)) (.node (some (.tup [.agg [I 0, I 0, I 0],
 I 0, I 3])) (.node (some (I 0)) N N) N) (.node (some (.agg [I 0, I 5, I 7])) (.node (some (.ptr 77 0)) N N) N)) (.node (some (I 0)) (.node (some (.ptr 77 0)) (.node (some (I 3))
 N N) N) (.node (some (.bool true)) N N))))))
noncomputable def h22_4 : Heap := (.node none (.node (some (.ro 265 [.sym 1])) N N) N)
end Go.Proofs.YthknocapablpaaaGreatDoor

