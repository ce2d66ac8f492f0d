/- The functions of the laws, told as the machine's; no conditions. -/
import Derived.Test.YtdehmopdlbdmfaaProg
import Derived.Test.YtdehmopdlbdmfaaM25
set_option maxRecDepth 100000
set_option linter.unusedVariables false
namespace Go.Proofs.YtdehmopdlbdmfaaJ
open Go Go.Proofs.YtdehmopdlbdmfaaM
-- chatelaine/chatelainelaw20.LeaseLong
def r13_0 : List IOper := [⟨some 6, .mov (.c (.bool false)), none⟩]
def r13_1 : List IOper := [⟨some 7, .callF 61 [], none⟩,
  ⟨some 8, .un .not (.t 7), none⟩]
def r13_2 : List IOper := [⟨some 6, .mov (.c (.bool false)), none⟩]
def r13_3 : List IOper := [⟨some 9, .mov (.t 0), none⟩,
  ⟨some 10, .mov (.t 1), none⟩,
  ⟨some 11, .build [(.int .i64 0), (.int .i64 0)] [(0, 1, (.t 9)), (1, 1, (.t 10))], none⟩,
  ⟨some 12, .mov (.t 2), none⟩,
  ⟨some 13, .callF 62 [(.t 11), (.t 12)], none⟩,
  ⟨some 14, .mov (.t 0), none⟩,
  ⟨some 15, .mov (.t 1), none⟩,
  ⟨some 16, .mov (.t 2), none⟩,
  ⟨some 17, .mini [(.t 16), (.c (.int .i64 65536))], none⟩,
  ⟨some 18, .maxi [(.c (.int .i64 0)), (.t 17)], none⟩,
  ⟨some 19, .callF 63 [(.t 14), (.t 15), (.t 18)], none⟩,
  ⟨some 20, .bin .eql (.t 13) (.t 19), none⟩,
  ⟨some 6, .mov (.t 20), none⟩]
def b13 : ICode :=
 (.seq (.reg [(0, false)] r13_0)
 (.seq (.seq (.reg [(0, false), (1, false)] r13_1)
 (.cond (.t 8) (.seq (.reg [(0, false)] r13_2)
 .ret)
 .skip))
 (.seq (.reg [(0, false), (1, false), (2, false), (3, false), (4, false), (5, false), (6, false), (7, false), (8, false), (9, false), (10, false), (11, false), (12, false)] r13_3)
 .ret)))
def f13 : IFunc := { nt := 21, res := [((.t 6), none)], body := b13 }
def ps13 : List Phases := []
def ms13 : List (Option (List Nat)) := [none]
-- (chatelaine/drift.Rate).Longer
def r59_0 : List IOper := [⟨some 2, .box 2 (.t 0), none⟩,
  ⟨some 4, .mov (.c (.int .i64 0)), none⟩]
def r59_1 : List IOper := [⟨some 5, .mov (.t 1), none⟩,
  ⟨some 6, .callF 94 [(.t 5)], none⟩,
  ⟨some 1, .mov (.t 6), none⟩]
def r59_2 : List IOper := [⟨some 7, .load (some 2) (.t 2), none⟩,
  ⟨some 8, .callF 93 [(.t 7)], none⟩,
  ⟨some 9, .bin .neq (.t 8) (.c (.int .i64 0)), none⟩]
def r59_3 : List IOper := [⟨some 10, .mov (.t 1), none⟩,
  ⟨some 4, .mov (.t 10), none⟩]
def r59_4 : List IOper := [⟨some 11, .mov (.t 1), none⟩,
  ⟨some 12, .fld 0 (.t 2), none⟩,
  ⟨some 13, .load none (.t 12), none⟩,
  ⟨some 14, .bin .mul (.t 11) (.t 13), none⟩,
  ⟨some 15, .fld 1 (.t 2), none⟩,
  ⟨some 16, .load none (.t 15), none⟩,
  ⟨some 17, .bin .add (.t 14) (.t 16), none⟩,
  ⟨some 18, .bin .sub (.t 17) (.c (.int .i64 1)), none⟩,
  ⟨some 19, .fld 1 (.t 2), none⟩,
  ⟨some 20, .load none (.t 19), none⟩,
  ⟨some 21, .bin .quo (.t 18) (.t 20), none⟩,
  ⟨some 4, .mov (.t 21), none⟩]
def b59 : ICode :=
 (.seq (.reg [(0, false), (1, false)] r59_0)
 (.seq (.reg [(0, false), (1, false), (2, false)] r59_1)
 (.seq (.seq (.reg [(0, false), (1, false), (2, false)] r59_2)
 (.cond (.t 9) (.seq (.reg [(0, false), (1, false)] r59_3)
 .ret)
 .skip))
 (.seq (.reg [(0, false), (1, false), (2, false), (3, false), (4, false), (5, false), (6, false), (7, false), (8, false), (9, false), (10, false), (11, false)] r59_4)
 .ret))))
def f59 : IFunc := { nt := 22, res := [((.t 4), none)], body := b59 }
def ps59 : List Phases := []
def ms59 : List (Option (List Nat)) := [none]
-- chatelaine/chatelainelaw20.awake
def r61_0 : List IOper := [⟨some 0, .mov (.c (.bool false)), none⟩]
def r61_1 : List IOper := [⟨some 2, .build [(.int .i64 0), (.int .i64 0)] [(0, 1, (.c (.int .i64 1))), (1, 1, (.c (.int .i64 1)))], none⟩,
  ⟨some 3, .build [(.int .i64 0), (.int .i64 0)] [(0, 1, (.c (.int .i64 1))), (1, 1, (.c (.int .i64 1)))], none⟩,
  ⟨some 4, .build [(.int .i64 0), (.int .i64 0), (.int .u32 0), (.int .i64 0), (.int .i64 0), (.int .i64 0), (.int .i64 0)] [(0, 1, (.c (.int .i64 1))), (1, 1, (.c (.int .i64 1))), (3, 2, (.t 2)), (5, 2, (.t 3))], none⟩,
  ⟨some 5, .callF 98 [(.t 4), (.c (.int .i64 10))], none⟩,
  ⟨some 1, .mov (.t 5), none⟩]
def r61_2 : List IOper := [⟨some 6, .mov (.t 1), none⟩,
  ⟨some 7, .eqn 1 true (.t 6) (.c .nilp), none⟩,
  ⟨some 8, .mov (.t 7), none⟩,
  ⟨some 9, .mov (.t 1), some (8, true)⟩,
  ⟨some 10, .callF 99 [(.t 9), (.c (.int .i64 5))], some (8, true)⟩,
  ⟨some 11, .pick (.t 8) (.t 10) (.c (.bool false)), none⟩,
  ⟨some 12, .mov (.t 11), none⟩,
  ⟨some 13, .mov (.t 1), some (12, true)⟩,
  ⟨some 14, .callF 100 [(.t 13), (.c (.int .i64 0)), (.c (.int .i64 5))], some (12, true)⟩,
  ⟨some 15, .pick (.t 12) (.t 14) (.c (.bool false)), none⟩,
  ⟨some 16, .mov (.t 15), none⟩,
  ⟨some 17, .mov (.t 1), some (16, true)⟩,
  ⟨some 18, .callF 101 [(.t 17)], some (16, true)⟩,
  ⟨some 19, .bin .eql (.t 18) (.c (.int .i64 15)), some (16, true)⟩,
  ⟨some 20, .pick (.t 16) (.t 19) (.c (.bool false)), none⟩,
  ⟨some 21, .mov (.t 20), none⟩,
  ⟨some 22, .mov (.t 1), some (21, true)⟩,
  ⟨some 23, .callF 102 [(.t 22), (.c (.int .i64 14))], some (21, true)⟩,
  ⟨some 24, .pick (.t 21) (.t 23) (.c (.bool false)), none⟩,
  ⟨some 25, .mov (.t 24), none⟩,
  ⟨some 26, .mov (.t 1), some (25, true)⟩,
  ⟨some 27, .callF 102 [(.t 26), (.c (.int .i64 15))], some (25, true)⟩,
  ⟨some 28, .un .not (.t 27), some (25, true)⟩,
  ⟨some 29, .pick (.t 25) (.t 28) (.c (.bool false)), none⟩,
  ⟨some 0, .mov (.t 29), none⟩]
def b61 : ICode :=
 (.seq (.reg [(0, false)] r61_0)
 (.seq (.reg [(0, false), (1, false), (2, false), (3, false), (4, false)] r61_1)
 (.seq (.reg [(0, false), (1, false), (2, false), (3, false), (4, false), (5, false), (6, false), (7, false), (8, false), (9, false), (10, false), (11, false), (12, false), (13, false), (14, false), (15, false), (16, false), (17, false), (18, false), (19, false), (20, false), (21, false), (22, false), (23, false), (24, false)] r61_2)
 .ret)))
def f61 : IFunc := { nt := 30, res := [((.t 0), none)], body := b61 }
def ps61 : List Phases := []
def ms61 : List (Option (List Nat)) := []
-- chatelaine/lease.Long
def r62_0 : List IOper := [⟨some 2, .box 2 (.t 0), none⟩,
  ⟨some 4, .mov (.c (.int .i64 0)), none⟩]
def r62_1 : List IOper := [⟨some 5, .load (some 2) (.t 2), none⟩,
  ⟨some 6, .mov (.t 1), none⟩,
  ⟨some 7, .callF 103 [(.t 6)], none⟩,
  ⟨some 8, .callF 59 [(.t 5), (.t 7)], none⟩,
  ⟨some 4, .mov (.t 8), none⟩]
def b62 : ICode :=
 (.seq (.reg [(0, false), (1, false)] r62_0)
 (.seq (.reg [(0, false), (1, false), (2, false), (0, true), (3, false), (4, false)] r62_1)
 .ret))
def f62 : IFunc := { nt := 9, res := [((.t 4), none)], body := b62 }
def ps62 : List Phases := [⟨[([(0, false), (1, false)], 2), ([(0, true)], 3)], [(4, false)]⟩]
def ms62 : List (Option (List Nat)) := []
-- chatelaine/chatelaineref04.Longer
def r63_0 : List IOper := [⟨some 6, .mov (.c (.int .i64 0)), none⟩]
def r63_1 : List IOper := [⟨some 9, .mov (.t 2), none⟩,
  ⟨some 10, .callF 104 [(.t 9)], none⟩,
  ⟨some 2, .mov (.t 10), none⟩]
def r63_2 : List IOper := [⟨some 11, .mov (.t 0), none⟩,
  ⟨some 12, .mov (.t 1), none⟩,
  ⟨some 13, .callF 105 [(.t 11), (.t 12)], none⟩,
  ⟨some 14, .un .not (.t 13), none⟩]
def r63_3 : List IOper := [⟨some 15, .mov (.t 2), none⟩,
  ⟨some 6, .mov (.t 15), none⟩]
def r63_4 : List IOper := [⟨some 7, .mov (.c (.int .i64 0)), none⟩]
def r63_5 : List IOper := [⟨some 8, .mov (.c (.int .i64 8796093022208)), none⟩]
def r63_6 : List IOper := [⟨some 16, .mov (.t 8), none⟩,
  ⟨some 17, .bin .gtr (.t 16) (.c (.int .i64 0)), none⟩]
def r63_7 : List IOper := [⟨some 20, .mov (.t 7), none⟩,
  ⟨some 21, .mov (.t 8), none⟩,
  ⟨some 22, .bin .add (.t 20) (.t 21), none⟩,
  ⟨some 23, .bin .sub (.t 22) (.c (.int .i64 1)), none⟩,
  ⟨some 24, .mov (.t 1), none⟩,
  ⟨some 25, .bin .mul (.t 23) (.t 24), none⟩,
  ⟨some 26, .mov (.t 2), none⟩,
  ⟨some 27, .mov (.t 0), none⟩,
  ⟨some 28, .bin .mul (.t 26) (.t 27), none⟩,
  ⟨some 29, .bin .lss (.t 25) (.t 28), none⟩]
def r63_8 : List IOper := [⟨some 30, .mov (.t 7), none⟩,
  ⟨some 31, .mov (.t 8), none⟩,
  ⟨some 32, .bin .add (.t 30) (.t 31), none⟩,
  ⟨some 7, .mov (.t 32), none⟩]
def r63_9 : List IOper := [⟨some 18, .mov (.t 8), none⟩,
  ⟨some 19, .bin .quo (.t 18) (.c (.int .i64 2)), none⟩,
  ⟨some 8, .mov (.t 19), none⟩]
def r63_10 : List IOper := [⟨some 33, .mov (.t 7), none⟩,
  ⟨some 6, .mov (.t 33), none⟩]
def b63 : ICode :=
 (.seq (.reg [(0, false)] r63_0)
 (.seq (.reg [(0, false), (1, false), (2, false)] r63_1)
 (.seq (.seq (.reg [(0, false), (1, false), (2, false), (3, false)] r63_2)
 (.cond (.t 14) (.seq (.reg [(0, false), (1, false)] r63_3)
 .ret)
 .skip))
 (.seq (.reg [(0, false)] r63_4)
 (.seq (.seq (.reg [(0, false)] r63_5)
 (.seq (.block 0 (.loop (.seq (.mask [0, 1, 2, 7, 8]) (.seq (.seq (.reg [(0, false), (1, false)] r63_6)
 (.cond (.t 17) .skip
 (.exit 0)))
 (.seq (.seq (.block 1 (.seq (.reg [(0, false), (1, false), (2, false), (3, false), (4, false), (5, false), (6, false), (7, false), (8, false), (9, false)] r63_7)
 (.seq (.cond (.t 29) (.reg [(0, false), (1, false), (2, false), (3, false)] r63_8)
 .skip) (.mask [0, 1, 2, 7, 8])))) (.mask [0, 1, 2, 7, 8]))
 (.reg [(0, false), (1, false), (2, false)] r63_9)))))) (.mask [7])))
 (.seq (.reg [(0, false), (1, false)] r63_10)
 .ret))))))
def f63 : IFunc := { nt := 34, res := [((.t 6), none)], body := b63 }
def ps63 : List Phases := []
def ms63 : List (Option (List Nat)) := [none, some [0, 1, 2, 7, 8], none, some [0, 1, 2, 7, 8], some [0, 1, 2, 7, 8], some [7]]
-- (chatelaine/drift.Rate).Check
def r93_0 : List IOper := [⟨some 1, .box 2 (.t 0), none⟩,
  ⟨some 2, .mov (.c (.int .i64 0)), none⟩]
def r93_1 : List IOper := [⟨some 3, .fld 1 (.t 1), none⟩,
  ⟨some 4, .load none (.t 3), none⟩,
  ⟨some 5, .bin .lss (.t 4) (.c (.int .i64 1)), none⟩,
  ⟨some 6, .mov (.t 5), none⟩,
  ⟨some 7, .fld 0 (.t 1), some (6, false)⟩,
  ⟨some 8, .load none (.t 7), some (6, false)⟩,
  ⟨some 9, .fld 1 (.t 1), some (6, false)⟩,
  ⟨some 10, .load none (.t 9), some (6, false)⟩,
  ⟨some 11, .bin .lss (.t 8) (.t 10), some (6, false)⟩,
  ⟨some 12, .pick (.t 6) (.c (.bool true)) (.t 11), none⟩,
  ⟨some 13, .mov (.t 12), none⟩,
  ⟨some 14, .fld 0 (.t 1), some (13, false)⟩,
  ⟨some 15, .load none (.t 14), some (13, false)⟩,
  ⟨some 16, .bin .gtr (.t 15) (.c (.int .i64 1000)), some (13, false)⟩,
  ⟨some 17, .pick (.t 13) (.c (.bool true)) (.t 16), none⟩,
  ⟨some 18, .mov (.t 17), none⟩,
  ⟨some 19, .fld 0 (.t 1), some (18, false)⟩,
  ⟨some 20, .load none (.t 19), some (18, false)⟩,
  ⟨some 21, .fld 1 (.t 1), some (18, false)⟩,
  ⟨some 22, .load none (.t 21), some (18, false)⟩,
  ⟨some 23, .bin .mul (.c (.int .i64 4)) (.t 22), some (18, false)⟩,
  ⟨some 24, .bin .gtr (.t 20) (.t 23), some (18, false)⟩,
  ⟨some 25, .pick (.t 18) (.c (.bool true)) (.t 24), none⟩]
def r93_2 : List IOper := [⟨some 2, .mov (.c (.int .i64 12)), none⟩]
def r93_3 : List IOper := [⟨some 2, .mov (.c (.int .i64 0)), none⟩]
def b93 : ICode :=
 (.seq (.reg [(0, false), (1, false)] r93_0)
 (.seq (.seq (.reg [(0, false), (1, false), (2, false), (3, false), (4, false), (5, false), (6, false), (7, false), (8, false), (9, false), (10, false), (11, false), (12, false), (13, false), (14, false), (15, false), (16, false), (17, false), (18, false), (19, false), (20, false), (21, false), (22, false)] r93_1)
 (.cond (.t 25) (.seq (.reg [(0, false)] r93_2)
 .ret)
 .skip))
 (.seq (.reg [(0, false)] r93_3)
 .ret)))
def f93 : IFunc := { nt := 26, res := [((.t 2), none)], body := b93 }
def ps93 : List Phases := []
def ms93 : List (Option (List Nat)) := [none]
-- chatelaine/drift.within
def r94_0 : List IOper := [⟨some 2, .mov (.c (.int .i64 0)), none⟩]
def r94_1 : List IOper := [⟨some 3, .mov (.t 0), none⟩,
  ⟨some 4, .mini [(.t 3), (.c (.int .i64 1099511627776))], none⟩,
  ⟨some 5, .maxi [(.c (.int .i64 0)), (.t 4)], none⟩,
  ⟨some 2, .mov (.t 5), none⟩]
def b94 : ICode :=
 (.seq (.reg [(0, false)] r94_0)
 (.seq (.reg [(0, false), (1, false), (2, false), (3, false)] r94_1)
 .ret))
def f94 : IFunc := { nt := 6, res := [((.t 2), none)], body := b94 }
def ps94 : List Phases := []
def ms94 : List (Option (List Nat)) := []
-- chatelaine/lease.New
def r98_0 : List IOper := [⟨some 2, .box 7 (.t 0), none⟩,
  ⟨some 4, .mov (.c .nilp), none⟩]
def r98_1 : List IOper := [⟨some 5, .load (some 7) (.t 2), none⟩,
  ⟨some 6, .mov (.t 1), none⟩,
  ⟨some 7, .callF 103 [(.t 6)], none⟩,
  ⟨some 8, .build [(.int .i64 0), (.int .i64 0), (.int .u32 0), (.int .i64 0), (.int .i64 0), (.int .i64 0), (.int .i64 0), (.int .i64 0), (.int .i64 0), .nilp, (.int .i64 0), (.bool false)] [(0, 7, (.t 5)), (7, 1, (.t 7))], none⟩,
  ⟨some 9, .box 12 (.t 8), none⟩,
  ⟨some 4, .mov (.t 9), none⟩]
def b98 : ICode :=
 (.seq (.reg [(0, false), (1, false)] r98_0)
 (.seq (.reg [(0, false), (1, false), (2, false), (0, true), (3, false), (4, false), (5, false)] r98_1)
 .ret))
def f98 : IFunc := { nt := 10, res := [((.t 4), none)], body := b98 }
def ps98 : List Phases := [⟨[([(0, false), (1, false)], 2)], [(0, true), (3, false), (4, false), (5, false)]⟩]
def ms98 : List (Option (List Nat)) := []
-- (*chatelaine/lease.Lease).Ask
def r99_0 : List IOper := [⟨some 4, .mov (.c (.bool false)), none⟩]
def r99_1 : List IOper := [⟨some 5, .mov (.t 0), none⟩,
  ⟨some 6, .nilck (.t 5), none⟩,
  ⟨some 7, .fld 11 (.t 6), none⟩,
  ⟨some 8, .load none (.t 7), none⟩]
def r99_2 : List IOper := [⟨some 4, .mov (.c (.bool false)), none⟩]
def r99_3 : List IOper := [⟨some 9, .mov (.t 0), none⟩,
  ⟨some 10, .mov (.t 0), none⟩,
  ⟨some 11, .mov (.t 1), none⟩,
  ⟨some 12, .mov (.t 0), none⟩,
  ⟨some 13, .nilck (.t 12), none⟩,
  ⟨some 14, .fld 0 (.t 13), none⟩,
  ⟨some 15, .load (some 7) (.t 14), none⟩,
  ⟨some 16, .callF 122 [(.t 15)], none⟩,
  ⟨some 17, .nilck (.t 9), none⟩,
  ⟨some 18, .fld 8 (.t 17), none⟩,
  ⟨none, .store 1 (.t 18) (.t 11), none⟩,
  ⟨some 19, .nilck (.t 10), none⟩,
  ⟨some 20, .fld 9 (.t 19), none⟩,
  ⟨none, .store 1 (.t 20) (.t 16), none⟩]
def r99_4 : List IOper := [⟨some 4, .mov (.c (.bool true)), none⟩]
def b99 : ICode :=
 (.seq (.reg [(0, false)] r99_0)
 (.seq (.seq (.reg [(0, false), (1, false), (2, false), (3, false)] r99_1)
 (.cond (.t 8) (.seq (.reg [(0, false)] r99_2)
 .ret)
 .skip))
 (.seq (.reg [(0, false), (1, false), (2, false), (3, false), (4, false), (5, false), (6, false), (7, false), (8, false), (9, false), (10, false), (11, false), (12, false), (13, false)] r99_3)
 (.seq (.reg [(0, false)] r99_4)
 .ret))))
def f99 : IFunc := { nt := 21, res := [((.t 4), none)], body := b99 }
def ps99 : List Phases := []
def ms99 : List (Option (List Nat)) := [none]
-- (*chatelaine/lease.Lease).Granted
def r100_0 : List IOper := [⟨some 6, .mov (.c (.bool false)), none⟩]
def r100_1 : List IOper := [⟨some 7, .mov (.t 0), none⟩,
  ⟨some 8, .nilck (.t 7), none⟩,
  ⟨some 9, .fld 9 (.t 8), none⟩,
  ⟨some 10, .load none (.t 9), none⟩,
  ⟨some 11, .eqn 1 false (.t 10) (.c .nilp), none⟩,
  ⟨some 12, .mov (.t 11), none⟩,
  ⟨some 13, .mov (.t 2), some (12, false)⟩,
  ⟨some 14, .mov (.t 0), some (12, false)⟩,
  ⟨some 15, .nilck (.t 14), some (12, false)⟩,
  ⟨some 16, .fld 8 (.t 15), some (12, false)⟩,
  ⟨some 17, .load none (.t 16), some (12, false)⟩,
  ⟨some 18, .bin .neq (.t 13) (.t 17), some (12, false)⟩,
  ⟨some 19, .pick (.t 12) (.c (.bool true)) (.t 18), none⟩,
  ⟨some 20, .mov (.t 19), none⟩,
  ⟨some 21, .mov (.t 0), some (20, false)⟩,
  ⟨some 22, .nilck (.t 21), some (20, false)⟩,
  ⟨some 23, .fld 9 (.t 22), some (20, false)⟩,
  ⟨some 24, .load none (.t 23), some (20, false)⟩,
  ⟨some 25, .mov (.t 1), some (20, false)⟩,
  ⟨some 26, .callF 123 [(.t 24), (.t 25)], some (20, false)⟩,
  ⟨some 27, .un .not (.t 26), some (20, false)⟩,
  ⟨some 28, .pick (.t 20) (.c (.bool true)) (.t 27), none⟩,
  ⟨some 29, .mov (.t 28), none⟩,
  ⟨some 30, .mov (.t 0), some (29, false)⟩,
  ⟨some 31, .nilck (.t 30), some (29, false)⟩,
  ⟨some 32, .fld 9 (.t 31), some (29, false)⟩,
  ⟨some 33, .load none (.t 32), some (29, false)⟩,
  ⟨some 34, .callF 124 [(.t 33)], some (29, false)⟩,
  ⟨some 35, .un .not (.t 34), some (29, false)⟩,
  ⟨some 36, .pick (.t 29) (.c (.bool true)) (.t 35), none⟩]
def r100_2 : List IOper := [⟨some 6, .mov (.c (.bool false)), none⟩]
def r100_3 : List IOper := [⟨some 37, .mov (.t 0), none⟩,
  ⟨some 38, .mov (.t 0), none⟩,
  ⟨some 39, .nilck (.t 38), none⟩,
  ⟨some 40, .fld 10 (.t 39), none⟩,
  ⟨some 41, .load none (.t 40), none⟩,
  ⟨some 42, .mov (.t 2), none⟩,
  ⟨some 43, .mov (.t 0), none⟩,
  ⟨some 44, .nilck (.t 43), none⟩,
  ⟨some 45, .fld 7 (.t 44), none⟩,
  ⟨some 46, .load none (.t 45), none⟩,
  ⟨some 47, .callF 117 [(.t 42), (.t 46)], none⟩,
  ⟨some 48, .maxi [(.t 41), (.t 47)], none⟩,
  ⟨some 49, .nilck (.t 37), none⟩,
  ⟨some 50, .fld 10 (.t 49), none⟩,
  ⟨none, .store 1 (.t 50) (.t 48), none⟩]
def r100_4 : List IOper := [⟨some 6, .mov (.c (.bool true)), none⟩]
def b100 : ICode :=
 (.seq (.reg [(0, false)] r100_0)
 (.seq (.seq (.reg [(0, false), (1, false), (2, false), (3, false), (4, false), (5, false), (6, false), (7, false), (8, false), (9, false), (10, false), (11, false), (12, false), (13, false), (14, false), (15, false), (16, false), (17, false), (18, false), (19, false), (20, false), (21, false), (22, false), (23, false), (24, false), (25, false), (26, false), (27, false), (28, false), (29, false)] r100_1)
 (.cond (.t 36) (.seq (.reg [(0, false)] r100_2)
 .ret)
 .skip))
 (.seq (.reg [(0, false), (1, false), (2, false), (3, false), (4, false), (5, false), (6, false), (7, false), (8, false), (9, false), (10, false), (4, true), (11, false), (12, false), (13, false), (14, false)] r100_3)
 (.seq (.reg [(0, false)] r100_4)
 .ret))))
def f100 : IFunc := { nt := 51, res := [((.t 6), none)], body := b100 }
def ps100 : List Phases := [⟨[([(0, false), (1, false), (2, false), (3, false), (4, false), (5, false), (6, false), (7, false), (8, false), (9, false)], 10), ([(4, true), (11, false), (12, false), (13, false)], 14)], []⟩]
def ms100 : List (Option (List Nat)) := [none]
-- (*chatelaine/lease.Lease).Until
def r101_0 : List IOper := [⟨some 2, .mov (.c (.int .i64 0)), none⟩]
def r101_1 : List IOper := [⟨some 3, .mov (.t 0), none⟩,
  ⟨some 4, .nilck (.t 3), none⟩,
  ⟨some 5, .fld 10 (.t 4), none⟩,
  ⟨some 6, .load none (.t 5), none⟩,
  ⟨some 2, .mov (.t 6), none⟩]
def b101 : ICode :=
 (.seq (.reg [(0, false)] r101_0)
 (.seq (.reg [(0, false), (1, false), (2, false), (3, false), (4, false)] r101_1)
 .ret))
def f101 : IFunc := { nt := 7, res := [((.t 2), none)], body := b101 }
def ps101 : List Phases := []
def ms101 : List (Option (List Nat)) := []
-- (*chatelaine/lease.Lease).Holds
def r102_0 : List IOper := [⟨some 4, .mov (.c (.bool false)), none⟩]
def r102_1 : List IOper := [⟨some 5, .mov (.t 1), none⟩,
  ⟨some 6, .mov (.t 0), none⟩,
  ⟨some 7, .nilck (.t 6), none⟩,
  ⟨some 8, .fld 10 (.t 7), none⟩,
  ⟨some 9, .load none (.t 8), none⟩,
  ⟨some 10, .bin .lss (.t 5) (.t 9), none⟩,
  ⟨some 4, .mov (.t 10), none⟩]
def b102 : ICode :=
 (.seq (.reg [(0, false)] r102_0)
 (.seq (.reg [(0, false), (1, false), (2, false), (3, false), (4, false), (5, false), (6, false)] r102_1)
 .ret))
def f102 : IFunc := { nt := 11, res := [((.t 4), none)], body := b102 }
def ps102 : List Phases := []
def ms102 : List (Option (List Nat)) := []
-- chatelaine/lease.within
def r103_0 : List IOper := [⟨some 2, .mov (.c (.int .i64 0)), none⟩]
def r103_1 : List IOper := [⟨some 3, .mov (.t 0), none⟩,
  ⟨some 4, .mini [(.t 3), (.c (.int .i64 65536))], none⟩,
  ⟨some 5, .maxi [(.c (.int .i64 0)), (.t 4)], none⟩,
  ⟨some 2, .mov (.t 5), none⟩]
def b103 : ICode :=
 (.seq (.reg [(0, false)] r103_0)
 (.seq (.reg [(0, false), (1, false), (2, false), (3, false)] r103_1)
 .ret))
def f103 : IFunc := { nt := 6, res := [((.t 2), none)], body := b103 }
def ps103 : List Phases := []
def ms103 : List (Option (List Nat)) := []
-- chatelaine/chatelaineref04.within
def r104_0 : List IOper := [⟨some 2, .mov (.c (.int .i64 0)), none⟩]
def r104_1 : List IOper := [⟨some 3, .mov (.t 0), none⟩,
  ⟨some 4, .bin .lss (.t 3) (.c (.int .i64 0)), none⟩]
def r104_2 : List IOper := [⟨some 2, .mov (.c (.int .i64 0)), none⟩]
def r104_3 : List IOper := [⟨some 5, .mov (.t 0), none⟩,
  ⟨some 6, .bin .gtr (.t 5) (.c (.int .i64 1099511627776)), none⟩]
def r104_4 : List IOper := [⟨some 2, .mov (.c (.int .i64 1099511627776)), none⟩]
def r104_5 : List IOper := [⟨some 7, .mov (.t 0), none⟩,
  ⟨some 2, .mov (.t 7), none⟩]
def b104 : ICode :=
 (.seq (.reg [(0, false)] r104_0)
 (.seq (.seq (.reg [(0, false), (1, false)] r104_1)
 (.cond (.t 4) (.seq (.reg [(0, false)] r104_2)
 .ret)
 .skip))
 (.seq (.seq (.reg [(0, false), (1, false)] r104_3)
 (.cond (.t 6) (.seq (.reg [(0, false)] r104_4)
 .ret)
 .skip))
 (.seq (.reg [(0, false), (1, false)] r104_5)
 .ret))))
def f104 : IFunc := { nt := 8, res := [((.t 2), none)], body := b104 }
def ps104 : List Phases := []
def ms104 : List (Option (List Nat)) := [none, none]
-- chatelaine/chatelaineref04.Good
def r105_0 : List IOper := [⟨some 4, .mov (.c (.bool false)), none⟩]
def r105_1 : List IOper := [⟨some 5, .mov (.t 1), none⟩,
  ⟨some 6, .bin .geq (.t 5) (.c (.int .i64 1)), none⟩,
  ⟨some 7, .mov (.t 6), none⟩,
  ⟨some 8, .mov (.t 0), some (7, true)⟩,
  ⟨some 9, .mov (.t 1), some (7, true)⟩,
  ⟨some 10, .bin .geq (.t 8) (.t 9), some (7, true)⟩,
  ⟨some 11, .pick (.t 7) (.t 10) (.c (.bool false)), none⟩,
  ⟨some 12, .mov (.t 11), none⟩,
  ⟨some 13, .mov (.t 0), some (12, true)⟩,
  ⟨some 14, .bin .leq (.t 13) (.c (.int .i64 1000)), some (12, true)⟩,
  ⟨some 15, .pick (.t 12) (.t 14) (.c (.bool false)), none⟩,
  ⟨some 16, .mov (.t 15), none⟩,
  ⟨some 17, .mov (.t 0), some (16, true)⟩,
  ⟨some 18, .bin .add (.t 17) (.c (.int .i64 3)), some (16, true)⟩,
  ⟨some 19, .bin .quo (.t 18) (.c (.int .i64 4)), some (16, true)⟩,
  ⟨some 20, .mov (.t 1), some (16, true)⟩,
  ⟨some 21, .bin .leq (.t 19) (.t 20), some (16, true)⟩,
  ⟨some 22, .pick (.t 16) (.t 21) (.c (.bool false)), none⟩,
  ⟨some 4, .mov (.t 22), none⟩]
def b105 : ICode :=
 (.seq (.reg [(0, false)] r105_0)
 (.seq (.reg [(0, false), (1, false), (2, false), (3, false), (4, false), (5, false), (6, false), (7, false), (8, false), (9, false), (10, false), (11, false), (12, false), (13, false), (14, false), (15, false), (16, false), (17, false), (18, false)] r105_1)
 .ret))
def f105 : IFunc := { nt := 23, res := [((.t 4), none)], body := b105 }
def ps105 : List Phases := []
def ms105 : List (Option (List Nat)) := []
-- chatelaine/drift.Later
def r117_0 : List IOper := [⟨some 4, .mov (.c (.int .i64 0)), none⟩]
def r117_1 : List IOper := [⟨some 5, .mov (.t 0), none⟩,
  ⟨some 6, .callF 94 [(.t 5)], none⟩,
  ⟨some 7, .mov (.t 1), none⟩,
  ⟨some 8, .callF 94 [(.t 7)], none⟩,
  ⟨some 9, .bin .add (.t 6) (.t 8), none⟩,
  ⟨some 10, .callF 94 [(.t 9)], none⟩,
  ⟨some 4, .mov (.t 10), none⟩]
def b117 : ICode :=
 (.seq (.reg [(0, false)] r117_0)
 (.seq (.reg [(0, false), (1, false), (2, false), (3, false), (4, false), (5, false), (6, false)] r117_1)
 .ret))
def f117 : IFunc := { nt := 11, res := [((.t 4), none)], body := b117 }
def ps117 : List Phases := []
def ms117 : List (Option (List Nat)) := []
-- chatelaine/votes.Second
def r122_0 : List IOper := [⟨some 1, .box 7 (.t 0), none⟩,
  ⟨some 2, .mov (.c .nilp), none⟩]
def r122_1 : List IOper := [⟨some 3, .load (some 7) (.t 1), none⟩,
  ⟨some 4, .build [(.int .i64 0), (.int .i64 0), (.int .u32 0), (.int .i64 0), (.int .i64 0), (.int .i64 0), (.int .i64 0), (.bool false), (.int .u32 0)] [(0, 7, (.t 3))], none⟩,
  ⟨some 5, .box 9 (.t 4), none⟩,
  ⟨some 2, .mov (.t 5), none⟩]
def b122 : ICode :=
 (.seq (.reg [(0, false), (1, false)] r122_0)
 (.seq (.reg [(0, false), (1, false), (2, false), (3, false)] r122_1)
 .ret))
def f122 : IFunc := { nt := 6, res := [((.t 2), none)], body := b122 }
def ps122 : List Phases := []
def ms122 : List (Option (List Nat)) := []
-- (*chatelaine/votes.Votes).Add
def r123_0 : List IOper := [⟨some 4, .mov (.c (.bool false)), none⟩]
def r123_1 : List IOper := [⟨some 6, .mov (.t 0), none⟩,
  ⟨some 7, .nilck (.t 6), none⟩,
  ⟨some 8, .fld 8 (.t 7), none⟩,
  ⟨some 9, .load none (.t 8), none⟩,
  ⟨some 5, .mov (.t 9), none⟩]
def r123_2 : List IOper := [⟨some 10, .mov (.t 0), none⟩,
  ⟨some 11, .nilck (.t 10), none⟩,
  ⟨some 12, .fld 0 (.t 11), none⟩,
  ⟨some 13, .load (some 7) (.t 12), none⟩,
  ⟨some 14, .mov (.t 1), none⟩,
  ⟨some 15, .callF 129 [(.t 13), (.t 14)], none⟩]
def r123_3 : List IOper := [⟨some 16, .mov (.t 0), none⟩,
  ⟨some 17, .nilck (.t 16), none⟩,
  ⟨some 18, .fld 8 (.t 17), none⟩,
  ⟨some 19, .load none (.t 18), none⟩,
  ⟨some 20, .mov (.t 1), none⟩,
  ⟨some 21, .buildS 1 1 [(.int .i64 0)] [(0, (.t 20))], none⟩,
  ⟨some 22, .callF 130 [(.t 21)], none⟩,
  ⟨some 23, .bin .or (.t 19) (.t 22), none⟩,
  ⟨some 24, .nilck (.t 16), none⟩,
  ⟨some 25, .fld 8 (.t 24), none⟩,
  ⟨none, .store 1 (.t 25) (.t 23), none⟩]
def r123_4 : List IOper := [⟨some 26, .mov (.t 0), none⟩,
  ⟨some 27, .nilck (.t 26), none⟩,
  ⟨some 28, .fld 8 (.t 27), none⟩,
  ⟨some 29, .load none (.t 28), none⟩,
  ⟨some 30, .mov (.t 5), none⟩,
  ⟨some 31, .bin .neq (.t 29) (.t 30), none⟩,
  ⟨some 4, .mov (.t 31), none⟩]
def b123 : ICode :=
 (.seq (.reg [(0, false)] r123_0)
 (.seq (.reg [(0, false), (1, false), (2, false), (3, false), (4, false)] r123_1)
 (.seq (.seq (.reg [(0, false), (1, false), (2, false), (3, false), (4, false), (5, false)] r123_2)
 (.seq (.cond (.t 15) (.reg [(0, false), (1, false), (2, false), (3, false), (4, false), (5, false), (6, false), (3, true), (7, false), (8, false), (9, false), (10, false)] r123_3)
 .skip) (.mask [0, 5])))
 (.seq (.reg [(0, false), (1, false), (2, false), (3, false), (4, false), (5, false), (6, false)] r123_4)
 .ret))))
def f123 : IFunc := { nt := 32, res := [((.t 4), none)], body := b123 }
def ps123 : List Phases := [⟨[([(0, false), (1, false), (2, false), (3, false), (4, false), (5, false)], 6), ([(3, true), (7, false), (8, false), (9, false)], 10)], []⟩]
def ms123 : List (Option (List Nat)) := [some [0, 5]]
-- (*chatelaine/votes.Votes).Done
def r124_0 : List IOper := [⟨some 2, .mov (.c (.bool false)), none⟩]
def r124_1 : List IOper := [⟨some 3, .mov (.t 0), none⟩,
  ⟨some 4, .callF 131 [(.t 3), (.c (.int .u32 0))], none⟩,
  ⟨some 2, .mov (.t 4), none⟩]
def b124 : ICode :=
 (.seq (.reg [(0, false)] r124_0)
 (.seq (.reg [(0, false), (1, false), (2, false)] r124_1)
 .ret))
def f124 : IFunc := { nt := 5, res := [((.t 2), none)], body := b124 }
def ps124 : List Phases := []
def ms124 : List (Option (List Nat)) := []
-- (chatelaine/grid.Config).Has
def r129_0 : List IOper := [⟨some 2, .box 7 (.t 0), none⟩,
  ⟨some 4, .mov (.c (.bool false)), none⟩]
def r129_1 : List IOper := [⟨some 5, .mov (.t 1), none⟩,
  ⟨some 6, .bin .geq (.t 5) (.c (.int .i64 0)), none⟩,
  ⟨some 7, .mov (.t 6), none⟩,
  ⟨some 8, .mov (.t 1), some (7, true)⟩,
  ⟨some 9, .load (some 7) (.t 2), some (7, true)⟩,
  ⟨some 10, .callF 134 [(.t 9)], some (7, true)⟩,
  ⟨some 11, .bin .lss (.t 8) (.t 10), some (7, true)⟩,
  ⟨some 12, .pick (.t 7) (.t 11) (.c (.bool false)), none⟩,
  ⟨some 4, .mov (.t 12), none⟩]
def b129 : ICode :=
 (.seq (.reg [(0, false), (1, false)] r129_0)
 (.seq (.reg [(0, false), (1, false), (2, false), (3, false), (4, false), (5, false), (6, false), (7, false), (8, false)] r129_1)
 .ret))
def f129 : IFunc := { nt := 13, res := [((.t 4), none)], body := b129 }
def ps129 : List Phases := []
def ms129 : List (Option (List Nat)) := []
-- chatelaine/grid.Set
def r130_0 : List IOper := [⟨some 2, .mov (.c (.int .u32 0)), none⟩]
def r130_1 : List IOper := [⟨some 3, .mov (.c (.int .u32 0)), none⟩]
def r130_2 : List IOper := [⟨some 6, .mov (.t 0), none⟩,
  ⟨some 7, .lenL (.t 6), none⟩,
  ⟨some 8, .mov (.c (.int .i64 0)), none⟩]
def r130_3 : List IOper := [⟨some 9, .bin .lss (.t 8) (.t 7), none⟩]
def r130_4 : List IOper := [⟨some 10, .ixS 1 (.t 6) (.t 8), none⟩,
  ⟨some 11, .load none (.t 10), none⟩,
  ⟨some 5, .mov (.t 11), none⟩]
def r130_5 : List IOper := [⟨some 12, .mov (.t 5), none⟩,
  ⟨some 13, .bin .geq (.t 12) (.c (.int .i64 0)), none⟩,
  ⟨some 14, .mov (.t 13), none⟩,
  ⟨some 15, .mov (.t 5), some (14, true)⟩,
  ⟨some 16, .bin .lss (.t 15) (.c (.int .i64 32)), some (14, true)⟩,
  ⟨some 17, .pick (.t 14) (.t 16) (.c (.bool false)), none⟩]
def r130_6 : List IOper := [⟨some 18, .mov (.t 3), none⟩,
  ⟨some 19, .mov (.t 5), none⟩,
  ⟨some 20, .bin .shl (.c (.int .u32 1)) (.t 19), none⟩,
  ⟨some 21, .bin .or (.t 18) (.t 20), none⟩,
  ⟨some 3, .mov (.t 21), none⟩]
def r130_7 : List IOper := [⟨some 22, .bin .add (.t 8) (.c (.int .i64 1)), none⟩,
  ⟨some 8, .mov (.t 22), none⟩]
def r130_8 : List IOper := [⟨some 23, .mov (.t 3), none⟩,
  ⟨some 2, .mov (.t 23), none⟩]
def b130 : ICode :=
 (.seq (.reg [(0, false)] r130_0)
 (.seq (.reg [(0, false)] r130_1)
 (.seq (.seq (.reg [(0, false), (1, false), (2, false)] r130_2)
 (.seq (.block 0 (.loop (.seq (.mask [3, 6, 7, 8]) (.seq (.reg [(0, false)] r130_3)
 (.seq (.cond (.t 9) .skip
 (.exit 0))
 (.seq (.seq (.block 1 (.seq (.reg [(0, false), (1, false), (2, false)] r130_4)
 (.seq (.reg [(0, false), (1, false), (2, false), (3, false), (4, false), (5, false)] r130_5)
 (.seq (.cond (.t 17) (.reg [(0, false), (1, false), (2, false), (3, false), (4, false)] r130_6)
 .skip) (.mask [3, 6, 7, 8]))))) (.mask [3, 6, 7, 8]))
 (.reg [(0, false), (1, false)] r130_7))))))) (.mask [3])))
 (.seq (.reg [(0, false), (1, false)] r130_8)
 .ret))))
def f130 : IFunc := { nt := 24, res := [((.t 2), none)], body := b130 }
def ps130 : List Phases := []
def ms130 : List (Option (List Nat)) := [some [3, 6, 7, 8], none, some [3, 6, 7, 8], some [3, 6, 7, 8], some [3]]
-- (*chatelaine/votes.Votes).Could
def r131_0 : List IOper := [⟨some 4, .mov (.c (.bool false)), none⟩]
def r131_1 : List IOper := [⟨some 5, .mov (.t 0), none⟩,
  ⟨some 6, .nilck (.t 5), none⟩,
  ⟨some 7, .fld 7 (.t 6), none⟩,
  ⟨some 8, .load none (.t 7), none⟩]
def r131_2 : List IOper := [⟨some 9, .mov (.t 0), none⟩,
  ⟨some 10, .nilck (.t 9), none⟩,
  ⟨some 11, .fld 0 (.t 10), none⟩,
  ⟨some 12, .load (some 7) (.t 11), none⟩,
  ⟨some 13, .mov (.t 0), none⟩,
  ⟨some 14, .nilck (.t 13), none⟩,
  ⟨some 15, .fld 8 (.t 14), none⟩,
  ⟨some 16, .load none (.t 15), none⟩,
  ⟨some 17, .mov (.t 1), none⟩,
  ⟨some 18, .bin .or (.t 16) (.t 17), none⟩,
  ⟨some 19, .callF 135 [(.t 12), (.t 18)], none⟩,
  ⟨some 4, .mov (.t 19), none⟩]
def r131_3 : List IOper := [⟨some 20, .mov (.t 0), none⟩,
  ⟨some 21, .nilck (.t 20), none⟩,
  ⟨some 22, .fld 0 (.t 21), none⟩,
  ⟨some 23, .load (some 7) (.t 22), none⟩,
  ⟨some 24, .mov (.t 0), none⟩,
  ⟨some 25, .nilck (.t 24), none⟩,
  ⟨some 26, .fld 8 (.t 25), none⟩,
  ⟨some 27, .load none (.t 26), none⟩,
  ⟨some 28, .mov (.t 1), none⟩,
  ⟨some 29, .bin .or (.t 27) (.t 28), none⟩,
  ⟨some 30, .callF 136 [(.t 23), (.t 29)], none⟩,
  ⟨some 4, .mov (.t 30), none⟩]
def b131 : ICode :=
 (.seq (.reg [(0, false)] r131_0)
 (.seq (.seq (.reg [(0, false), (1, false), (2, false), (3, false)] r131_1)
 (.cond (.t 8) (.seq (.reg [(0, false), (1, false), (2, false), (3, false), (4, false), (5, false), (6, false), (7, false), (8, false), (9, false), (10, false), (11, false)] r131_2)
 .ret)
 .skip))
 (.seq (.reg [(0, false), (1, false), (2, false), (3, false), (4, false), (5, false), (6, false), (7, false), (8, false), (9, false), (10, false), (11, false)] r131_3)
 .ret)))
def f131 : IFunc := { nt := 31, res := [((.t 4), none)], body := b131 }
def ps131 : List Phases := [⟨[([(0, false), (1, false), (2, false), (3, false), (4, false), (5, false), (6, false), (7, false), (8, false), (9, false)], 10)], [(11, false)]⟩, ⟨[([(0, false), (1, false), (2, false), (3, false), (4, false), (5, false), (6, false), (7, false), (8, false), (9, false)], 10)], [(11, false)]⟩]
def ms131 : List (Option (List Nat)) := [none]
-- (chatelaine/grid.Config).Len
def r134_0 : List IOper := [⟨some 1, .box 7 (.t 0), none⟩,
  ⟨some 2, .mov (.c (.int .i64 0)), none⟩]
def r134_1 : List IOper := [⟨some 3, .load (some 7) (.t 1), none⟩,
  ⟨some 4, .callF 137 [(.t 3)], none⟩,
  ⟨some 5, .un .not (.t 4), none⟩]
def r134_2 : List IOper := [⟨some 2, .mov (.c (.int .i64 0)), none⟩]
def r134_3 : List IOper := [⟨some 6, .fld 0 (.t 1), none⟩,
  ⟨some 7, .load none (.t 6), none⟩,
  ⟨some 8, .fld 1 (.t 1), none⟩,
  ⟨some 9, .load none (.t 8), none⟩,
  ⟨some 10, .bin .mul (.t 7) (.t 9), none⟩,
  ⟨some 2, .mov (.t 10), none⟩]
def b134 : ICode :=
 (.seq (.reg [(0, false), (1, false)] r134_0)
 (.seq (.seq (.reg [(0, false), (1, false), (2, false)] r134_1)
 (.cond (.t 5) (.seq (.reg [(0, false)] r134_2)
 .ret)
 .skip))
 (.seq (.reg [(0, false), (1, false), (2, false), (3, false), (4, false), (5, false)] r134_3)
 .ret)))
def f134 : IFunc := { nt := 11, res := [((.t 2), none)], body := b134 }
def ps134 : List Phases := []
def ms134 : List (Option (List Nat)) := [none]
-- (chatelaine/grid.Config).IsFirst
def r135_0 : List IOper := [⟨some 2, .box 7 (.t 0), none⟩,
  ⟨some 4, .mov (.c (.bool false)), none⟩]
def r135_1 : List IOper := [⟨some 5, .load (some 7) (.t 2), none⟩,
  ⟨some 6, .mov (.t 1), none⟩,
  ⟨some 7, .fld 3 (.t 2), none⟩,
  ⟨some 8, .load (some 2) (.t 7), none⟩,
  ⟨some 9, .callF 138 [(.t 5), (.t 6), (.t 8)], none⟩,
  ⟨some 4, .mov (.t 9), none⟩]
def b135 : ICode :=
 (.seq (.reg [(0, false), (1, false)] r135_0)
 (.seq (.reg [(0, false), (1, false), (2, false), (3, false), (4, false), (5, false)] r135_1)
 .ret))
def f135 : IFunc := { nt := 10, res := [((.t 4), none)], body := b135 }
def ps135 : List Phases := []
def ms135 : List (Option (List Nat)) := []
-- (chatelaine/grid.Config).IsSecond
def r136_0 : List IOper := [⟨some 2, .box 7 (.t 0), none⟩,
  ⟨some 4, .mov (.c (.bool false)), none⟩]
def r136_1 : List IOper := [⟨some 5, .load (some 7) (.t 2), none⟩,
  ⟨some 6, .mov (.t 1), none⟩,
  ⟨some 7, .fld 5 (.t 2), none⟩,
  ⟨some 8, .load (some 2) (.t 7), none⟩,
  ⟨some 9, .callF 138 [(.t 5), (.t 6), (.t 8)], none⟩,
  ⟨some 4, .mov (.t 9), none⟩]
def b136 : ICode :=
 (.seq (.reg [(0, false), (1, false)] r136_0)
 (.seq (.reg [(0, false), (1, false), (2, false), (3, false), (4, false), (5, false)] r136_1)
 .ret))
def f136 : IFunc := { nt := 10, res := [((.t 4), none)], body := b136 }
def ps136 : List Phases := []
def ms136 : List (Option (List Nat)) := []
-- (chatelaine/grid.Config).good
def r137_0 : List IOper := [⟨some 1, .box 7 (.t 0), none⟩,
  ⟨some 2, .mov (.c (.bool false)), none⟩]
def r137_1 : List IOper := [⟨some 3, .load (some 7) (.t 1), none⟩,
  ⟨some 4, .callF 139 [(.t 3)], none⟩,
  ⟨some 5, .bin .eql (.t 4) (.c (.int .i64 0)), none⟩,
  ⟨some 2, .mov (.t 5), none⟩]
def b137 : ICode :=
 (.seq (.reg [(0, false), (1, false)] r137_0)
 (.seq (.reg [(0, false), (1, false), (2, false), (3, false)] r137_1)
 .ret))
def f137 : IFunc := { nt := 6, res := [((.t 2), none)], body := b137 }
def ps137 : List Phases := []
def ms137 : List (Option (List Nat)) := []
-- (chatelaine/grid.Config).meets
def r138_0 : List IOper := [⟨some 3, .box 7 (.t 0), none⟩,
  ⟨some 5, .box 2 (.t 2), none⟩,
  ⟨some 6, .mov (.c (.bool false)), none⟩]
def r138_1 : List IOper := [⟨some 9, .load (some 7) (.t 3), none⟩,
  ⟨some 10, .callF 137 [(.t 9)], none⟩,
  ⟨some 11, .un .not (.t 10), none⟩]
def r138_2 : List IOper := [⟨some 6, .mov (.c (.bool false)), none⟩]
def r138_3 : List IOper := [⟨some 7, .mov (.c (.int .i64 0)), none⟩]
def r138_4 : List IOper := [⟨some 12, .fld 0 (.t 3), none⟩,
  ⟨some 13, .load none (.t 12), none⟩,
  ⟨some 14, .mov (.c (.int .i64 0)), none⟩]
def r138_5 : List IOper := [⟨some 15, .bin .lss (.t 14) (.t 13), none⟩]
def r138_6 : List IOper := [⟨some 16, .mov (.t 14), none⟩,
  ⟨some 8, .mov (.t 16), none⟩]
def r138_7 : List IOper := [⟨some 17, .mov (.t 1), none⟩,
  ⟨some 18, .load (some 7) (.t 3), none⟩,
  ⟨some 19, .mov (.t 8), none⟩,
  ⟨some 20, .callF 141 [(.t 18), (.t 19)], none⟩,
  ⟨some 21, .bin .and (.t 17) (.t 20), none⟩,
  ⟨some 22, .callF 140 [(.t 21)], none⟩,
  ⟨some 23, .fld 1 (.t 5), none⟩,
  ⟨some 24, .load none (.t 23), none⟩,
  ⟨some 25, .bin .geq (.t 22) (.t 24), none⟩]
def r138_8 : List IOper := [⟨some 26, .mov (.t 7), none⟩,
  ⟨some 27, .bin .add (.t 26) (.c (.int .i64 1)), none⟩,
  ⟨some 7, .mov (.t 27), none⟩]
def r138_9 : List IOper := [⟨some 28, .bin .add (.t 14) (.c (.int .i64 1)), none⟩,
  ⟨some 14, .mov (.t 28), none⟩]
def r138_10 : List IOper := [⟨some 29, .mov (.t 7), none⟩,
  ⟨some 30, .fld 0 (.t 5), none⟩,
  ⟨some 31, .load none (.t 30), none⟩,
  ⟨some 32, .bin .geq (.t 29) (.t 31), none⟩,
  ⟨some 6, .mov (.t 32), none⟩]
def b138 : ICode :=
 (.seq (.reg [(0, false), (1, false), (2, false)] r138_0)
 (.seq (.seq (.reg [(0, false), (1, false), (2, false)] r138_1)
 (.cond (.t 11) (.seq (.reg [(0, false)] r138_2)
 .ret)
 .skip))
 (.seq (.reg [(0, false)] r138_3)
 (.seq (.seq (.reg [(0, false), (1, false), (2, false)] r138_4)
 (.seq (.block 0 (.loop (.seq (.mask [1, 3, 5, 7, 13, 14]) (.seq (.reg [(0, false)] r138_5)
 (.seq (.cond (.t 15) .skip
 (.exit 0))
 (.seq (.seq (.block 1 (.seq (.reg [(0, false), (1, false)] r138_6)
 (.seq (.reg [(0, false), (1, false), (2, false), (6, false), (7, false), (3, false), (7, true), (4, false), (5, false), (7, true), (8, false)] r138_7)
 (.seq (.cond (.t 25) (.reg [(0, false), (1, false), (2, false)] r138_8)
 .skip) (.mask [1, 3, 5, 7, 13, 14]))))) (.mask [1, 3, 5, 7, 13, 14]))
 (.reg [(0, false), (1, false)] r138_9))))))) (.mask [5, 7])))
 (.seq (.reg [(0, false), (1, false), (2, false), (3, false), (4, false)] r138_10)
 .ret)))))
def f138 : IFunc := { nt := 33, res := [((.t 6), none)], body := b138 }
def ps138 : List Phases := [⟨[([(0, false), (1, false), (2, false), (6, false), (7, false)], 3), ([(7, true), (4, false)], 5)], [(7, true), (8, false)]⟩]
def ms138 : List (Option (List Nat)) := [none, some [1, 3, 5, 7, 13, 14], none, some [1, 3, 5, 7, 13, 14], some [1, 3, 5, 7, 13, 14], some [5, 7]]
-- (chatelaine/grid.Config).Check
def r139_0 : List IOper := [⟨some 1, .box 7 (.t 0), none⟩,
  ⟨some 2, .mov (.c (.int .i64 0)), none⟩]
def r139_1 : List IOper := [⟨some 3, .load (some 7) (.t 1), none⟩,
  ⟨some 4, .callF 142 [(.t 3)], none⟩,
  ⟨some 5, .un .not (.t 4), none⟩,
  ⟨some 6, .mov (.t 5), none⟩,
  ⟨some 7, .load (some 7) (.t 1), some (6, false)⟩,
  ⟨some 8, .callF 143 [(.t 7)], some (6, false)⟩,
  ⟨some 9, .fld 3 (.t 1), some (6, false)⟩,
  ⟨some 10, .fld 0 (.t 9), some (6, false)⟩,
  ⟨some 11, .load none (.t 10), some (6, false)⟩,
  ⟨some 12, .fld 5 (.t 1), some (6, false)⟩,
  ⟨some 13, .fld 0 (.t 12), some (6, false)⟩,
  ⟨some 14, .load none (.t 13), some (6, false)⟩,
  ⟨some 15, .bin .add (.t 11) (.t 14), some (6, false)⟩,
  ⟨some 16, .fld 0 (.t 1), some (6, false)⟩,
  ⟨some 17, .load none (.t 16), some (6, false)⟩,
  ⟨some 18, .bin .sub (.t 15) (.t 17), some (6, false)⟩,
  ⟨some 19, .bin .geq (.t 8) (.t 18), some (6, false)⟩,
  ⟨some 20, .pick (.t 6) (.c (.bool true)) (.t 19), none⟩]
def r139_2 : List IOper := [⟨some 2, .mov (.c (.int .i64 12)), none⟩]
def r139_3 : List IOper := [⟨some 2, .mov (.c (.int .i64 0)), none⟩]
def b139 : ICode :=
 (.seq (.reg [(0, false), (1, false)] r139_0)
 (.seq (.seq (.reg [(0, false), (1, false), (2, false), (3, false), (4, false), (6, false), (7, false), (8, false), (9, false), (10, false), (11, false), (12, false), (13, false), (14, false), (15, false), (5, false), (8, true), (11, true), (14, true), (16, false), (17, false)] r139_1)
 (.cond (.t 20) (.seq (.reg [(0, false)] r139_2)
 .ret)
 .skip))
 (.seq (.reg [(0, false)] r139_3)
 .ret)))
def f139 : IFunc := { nt := 21, res := [((.t 2), none)], body := b139 }
def ps139 : List Phases := [⟨[([(0, false)], 1), ([(2, false), (3, false), (4, false), (6, false), (7, false), (8, false), (9, false), (10, false), (11, false), (12, false), (13, false), (14, false), (15, false)], 5)], [(8, true), (11, true), (14, true), (16, false), (17, false)]⟩]
def ms139 : List (Option (List Nat)) := [none]
-- math/bits.OnesCount32
def r140_0 : List IOper := [⟨some 2, .mov (.c (.int .i64 0)), none⟩]
def r140_1 : List IOper := [⟨some 3, .mov (.t 0), none⟩,
  ⟨some 4, .bin .shr (.t 3) (.c (.int .u64 24)), none⟩,
  ⟨some 5, .ixStr (.c (.str (⟨#[0, 1, 1, 2, 1, 2, 2, 3, 1, 2, 2, 3, 2, 3, 3, 4, 1, 2, 2, 3, 2, 3, 3, 4, 2, 3, 3, 4, 3, 4, 4, 5, 1, 2, 2, 3, 2, 3, 3, 4, 2, 3, 3, 4, 3, 4, 4, 5, 2, 3, 3, 4, 3, 4, 4, 5, 3, 4, 4, 5, 4, 5, 5, 6, 1, 2, 2, 3, 2, 3, 3, 4, 2, 3, 3, 4, 3, 4, 4, 5, 2, 3, 3, 4, 3, 4, 4, 5, 3, 4, 4, 5, 4, 5, 5, 6, 2, 3, 3, 4, 3, 4, 4, 5, 3, 4, 4, 5, 4, 5, 5, 6, 3, 4, 4, 5, 4, 5, 5, 6, 4, 5, 5, 6, 5, 6, 6, 7, 1, 2, 2, 3, 2, 3, 3, 4, 2, 3, 3, 4, 3, 4, 4, 5, 2, 3, 3, 4, 3, 4, 4, 5, 3, 4, 4, 5, 4, 5, 5, 6, 2, 3, 3, 4, 3, 4, 4, 5, 3, 4, 4, 5, 4, 5, 5, 6, 3, 4, 4, 5, 4, 5, 5, 6, 4, 5, 5, 6, 5, 6, 6, 7, 2, 3, 3, 4, 3, 4, 4, 5, 3, 4, 4, 5, 4, 5, 5, 6, 3, 4, 4, 5, 4, 5, 5, 6, 4, 5, 5, 6, 5, 6, 6, 7, 3, 4, 4, 5, 4, 5, 5, 6, 4, 5, 5, 6, 5, 6, 6, 7, 4, 5, 5, 6, 5, 6, 6, 7, 5, 6, 6, 7, 6, 7, 7, 8]⟩ : ByteArray))) (.t 4), none⟩,
  ⟨some 6, .mov (.t 0), none⟩,
  ⟨some 7, .bin .shr (.t 6) (.c (.int .u64 16)), none⟩,
  ⟨some 8, .bin .and (.t 7) (.c (.int .u32 255)), none⟩,
  ⟨some 9, .ixStr (.c (.str (⟨#[0, 1, 1, 2, 1, 2, 2, 3, 1, 2, 2, 3, 2, 3, 3, 4, 1, 2, 2, 3, 2, 3, 3, 4, 2, 3, 3, 4, 3, 4, 4, 5, 1, 2, 2, 3, 2, 3, 3, 4, 2, 3, 3, 4, 3, 4, 4, 5, 2, 3, 3, 4, 3, 4, 4, 5, 3, 4, 4, 5, 4, 5, 5, 6, 1, 2, 2, 3, 2, 3, 3, 4, 2, 3, 3, 4, 3, 4, 4, 5, 2, 3, 3, 4, 3, 4, 4, 5, 3, 4, 4, 5, 4, 5, 5, 6, 2, 3, 3, 4, 3, 4, 4, 5, 3, 4, 4, 5, 4, 5, 5, 6, 3, 4, 4, 5, 4, 5, 5, 6, 4, 5, 5, 6, 5, 6, 6, 7, 1, 2, 2, 3, 2, 3, 3, 4, 2, 3, 3, 4, 3, 4, 4, 5, 2, 3, 3, 4, 3, 4, 4, 5, 3, 4, 4, 5, 4, 5, 5, 6, 2, 3, 3, 4, 3, 4, 4, 5, 3, 4, 4, 5, 4, 5, 5, 6, 3, 4, 4, 5, 4, 5, 5, 6, 4, 5, 5, 6, 5, 6, 6, 7, 2, 3, 3, 4, 3, 4, 4, 5, 3, 4, 4, 5, 4, 5, 5, 6, 3, 4, 4, 5, 4, 5, 5, 6, 4, 5, 5, 6, 5, 6, 6, 7, 3, 4, 4, 5, 4, 5, 5, 6, 4, 5, 5, 6, 5, 6, 6, 7, 4, 5, 5, 6, 5, 6, 6, 7, 5, 6, 6, 7, 6, 7, 7, 8]⟩ : ByteArray))) (.t 8), none⟩,
  ⟨some 10, .bin .add (.t 5) (.t 9), none⟩,
  ⟨some 11, .mov (.t 0), none⟩,
  ⟨some 12, .bin .shr (.t 11) (.c (.int .u64 8)), none⟩,
  ⟨some 13, .bin .and (.t 12) (.c (.int .u32 255)), none⟩,
  ⟨some 14, .ixStr (.c (.str (⟨#[0, 1, 1, 2, 1, 2, 2, 3, 1, 2, 2, 3, 2, 3, 3, 4, 1, 2, 2, 3, 2, 3, 3, 4, 2, 3, 3, 4, 3, 4, 4, 5, 1, 2, 2, 3, 2, 3, 3, 4, 2, 3, 3, 4, 3, 4, 4, 5, 2, 3, 3, 4, 3, 4, 4, 5, 3, 4, 4, 5, 4, 5, 5, 6, 1, 2, 2, 3, 2, 3, 3, 4, 2, 3, 3, 4, 3, 4, 4, 5, 2, 3, 3, 4, 3, 4, 4, 5, 3, 4, 4, 5, 4, 5, 5, 6, 2, 3, 3, 4, 3, 4, 4, 5, 3, 4, 4, 5, 4, 5, 5, 6, 3, 4, 4, 5, 4, 5, 5, 6, 4, 5, 5, 6, 5, 6, 6, 7, 1, 2, 2, 3, 2, 3, 3, 4, 2, 3, 3, 4, 3, 4, 4, 5, 2, 3, 3, 4, 3, 4, 4, 5, 3, 4, 4, 5, 4, 5, 5, 6, 2, 3, 3, 4, 3, 4, 4, 5, 3, 4, 4, 5, 4, 5, 5, 6, 3, 4, 4, 5, 4, 5, 5, 6, 4, 5, 5, 6, 5, 6, 6, 7, 2, 3, 3, 4, 3, 4, 4, 5, 3, 4, 4, 5, 4, 5, 5, 6, 3, 4, 4, 5, 4, 5, 5, 6, 4, 5, 5, 6, 5, 6, 6, 7, 3, 4, 4, 5, 4, 5, 5, 6, 4, 5, 5, 6, 5, 6, 6, 7, 4, 5, 5, 6, 5, 6, 6, 7, 5, 6, 6, 7, 6, 7, 7, 8]⟩ : ByteArray))) (.t 13), none⟩,
  ⟨some 15, .bin .add (.t 10) (.t 14), none⟩,
  ⟨some 16, .mov (.t 0), none⟩,
  ⟨some 17, .bin .and (.t 16) (.c (.int .u32 255)), none⟩,
  ⟨some 18, .ixStr (.c (.str (⟨#[0, 1, 1, 2, 1, 2, 2, 3, 1, 2, 2, 3, 2, 3, 3, 4, 1, 2, 2, 3, 2, 3, 3, 4, 2, 3, 3, 4, 3, 4, 4, 5, 1, 2, 2, 3, 2, 3, 3, 4, 2, 3, 3, 4, 3, 4, 4, 5, 2, 3, 3, 4, 3, 4, 4, 5, 3, 4, 4, 5, 4, 5, 5, 6, 1, 2, 2, 3, 2, 3, 3, 4, 2, 3, 3, 4, 3, 4, 4, 5, 2, 3, 3, 4, 3, 4, 4, 5, 3, 4, 4, 5, 4, 5, 5, 6, 2, 3, 3, 4, 3, 4, 4, 5, 3, 4, 4, 5, 4, 5, 5, 6, 3, 4, 4, 5, 4, 5, 5, 6, 4, 5, 5, 6, 5, 6, 6, 7, 1, 2, 2, 3, 2, 3, 3, 4, 2, 3, 3, 4, 3, 4, 4, 5, 2, 3, 3, 4, 3, 4, 4, 5, 3, 4, 4, 5, 4, 5, 5, 6, 2, 3, 3, 4, 3, 4, 4, 5, 3, 4, 4, 5, 4, 5, 5, 6, 3, 4, 4, 5, 4, 5, 5, 6, 4, 5, 5, 6, 5, 6, 6, 7, 2, 3, 3, 4, 3, 4, 4, 5, 3, 4, 4, 5, 4, 5, 5, 6, 3, 4, 4, 5, 4, 5, 5, 6, 4, 5, 5, 6, 5, 6, 6, 7, 3, 4, 4, 5, 4, 5, 5, 6, 4, 5, 5, 6, 5, 6, 6, 7, 4, 5, 5, 6, 5, 6, 6, 7, 5, 6, 6, 7, 6, 7, 7, 8]⟩ : ByteArray))) (.t 17), none⟩,
  ⟨some 19, .bin .add (.t 15) (.t 18), none⟩,
  ⟨some 20, .conv .i64 (.t 19), none⟩,
  ⟨some 2, .mov (.t 20), none⟩]
def b140 : ICode :=
 (.seq (.reg [(0, false)] r140_0)
 (.seq (.reg [(0, false), (1, false), (2, false), (3, false), (4, false), (5, false), (6, false), (7, false), (8, false), (9, false), (10, false), (11, false), (12, false), (13, false), (14, false), (15, false), (16, false), (17, false), (18, false)] r140_1)
 .ret))
def f140 : IFunc := { nt := 21, res := [((.t 2), none)], body := b140 }
def ps140 : List Phases := [⟨[], [(0, false), (1, false), (2, false), (3, false), (4, false), (5, false), (6, false), (7, false), (8, false), (9, false), (10, false), (11, false), (12, false), (13, false), (14, false), (15, false), (16, false), (17, false), (18, false)]⟩]
def ms140 : List (Option (List Nat)) := []
-- (chatelaine/grid.Config).zone
def r141_0 : List IOper := [⟨some 2, .box 7 (.t 0), none⟩,
  ⟨some 4, .mov (.c (.int .u32 0)), none⟩]
def r141_1 : List IOper := [⟨some 5, .fld 1 (.t 2), none⟩,
  ⟨some 6, .load none (.t 5), none⟩,
  ⟨some 7, .bin .shl (.c (.int .u32 1)) (.t 6), none⟩,
  ⟨some 8, .bin .sub (.t 7) (.c (.int .u32 1)), none⟩,
  ⟨some 9, .mov (.t 1), none⟩,
  ⟨some 10, .fld 1 (.t 2), none⟩,
  ⟨some 11, .load none (.t 10), none⟩,
  ⟨some 12, .bin .mul (.t 9) (.t 11), none⟩,
  ⟨some 13, .bin .shl (.t 8) (.t 12), none⟩,
  ⟨some 4, .mov (.t 13), none⟩]
def b141 : ICode :=
 (.seq (.reg [(0, false), (1, false)] r141_0)
 (.seq (.reg [(0, false), (1, false), (2, false), (3, false), (4, false), (5, false), (6, false), (7, false), (8, false), (9, false)] r141_1)
 .ret))
def f141 : IFunc := { nt := 14, res := [((.t 4), none)], body := b141 }
def ps141 : List Phases := [⟨[], [(0, false), (1, false), (2, false), (3, false), (4, false), (5, false), (6, false), (7, false), (8, false), (9, false)]⟩]
def ms141 : List (Option (List Nat)) := []
-- (chatelaine/grid.Config).shaped
def r142_0 : List IOper := [⟨some 1, .box 7 (.t 0), none⟩,
  ⟨some 2, .mov (.c (.bool false)), none⟩]
def r142_1 : List IOper := [⟨some 5, .fld 0 (.t 1), none⟩,
  ⟨some 6, .load none (.t 5), none⟩,
  ⟨some 7, .bin .lss (.t 6) (.c (.int .i64 1)), none⟩,
  ⟨some 8, .mov (.t 7), none⟩,
  ⟨some 9, .fld 0 (.t 1), some (8, false)⟩,
  ⟨some 10, .load none (.t 9), some (8, false)⟩,
  ⟨some 11, .bin .gtr (.t 10) (.c (.int .i64 4)), some (8, false)⟩,
  ⟨some 12, .pick (.t 8) (.c (.bool true)) (.t 11), none⟩,
  ⟨some 13, .mov (.t 12), none⟩,
  ⟨some 14, .fld 1 (.t 1), some (13, false)⟩,
  ⟨some 15, .load none (.t 14), some (13, false)⟩,
  ⟨some 16, .bin .lss (.t 15) (.c (.int .i64 1)), some (13, false)⟩,
  ⟨some 17, .pick (.t 13) (.c (.bool true)) (.t 16), none⟩,
  ⟨some 18, .mov (.t 17), none⟩,
  ⟨some 19, .fld 1 (.t 1), some (18, false)⟩,
  ⟨some 20, .load none (.t 19), some (18, false)⟩,
  ⟨some 21, .bin .gtr (.t 20) (.c (.int .i64 4)), some (18, false)⟩,
  ⟨some 22, .pick (.t 18) (.c (.bool true)) (.t 21), none⟩,
  ⟨some 23, .mov (.t 22), none⟩,
  ⟨some 24, .fld 0 (.t 1), some (23, false)⟩,
  ⟨some 25, .load none (.t 24), some (23, false)⟩,
  ⟨some 26, .fld 1 (.t 1), some (23, false)⟩,
  ⟨some 27, .load none (.t 26), some (23, false)⟩,
  ⟨some 28, .bin .mul (.t 25) (.t 27), some (23, false)⟩,
  ⟨some 29, .bin .gtr (.t 28) (.c (.int .i64 12)), some (23, false)⟩,
  ⟨some 30, .pick (.t 23) (.c (.bool true)) (.t 29), none⟩]
def r142_2 : List IOper := [⟨some 2, .mov (.c (.bool false)), none⟩]
def r142_3 : List IOper := [⟨some 31, .fld 3 (.t 1), none⟩,
  ⟨some 32, .load (some 2) (.t 31), none⟩,
  ⟨some 33, .fld 5 (.t 1), none⟩,
  ⟨some 34, .load (some 2) (.t 33), none⟩,
  ⟨some 35, .buildS 2 2 [(.int .i64 0), (.int .i64 0)] [(0, (.t 32)), (1, (.t 34))], none⟩,
  ⟨some 36, .lenL (.t 35), none⟩,
  ⟨some 37, .mov (.c (.int .i64 0)), none⟩]
def r142_4 : List IOper := [⟨some 38, .bin .lss (.t 37) (.t 36), none⟩]
def r142_5 : List IOper := [⟨some 39, .ixS 2 (.t 35) (.t 37), none⟩,
  ⟨some 40, .load (some 2) (.t 39), none⟩,
  ⟨some 4, .alloc [(.int .i64 0), (.int .i64 0)], none⟩,
  ⟨none, .store 2 (.t 4) (.t 40), none⟩]
def r142_6 : List IOper := [⟨some 41, .fld 0 (.t 4), none⟩,
  ⟨some 42, .load none (.t 41), none⟩,
  ⟨some 43, .bin .lss (.t 42) (.c (.int .i64 1)), none⟩,
  ⟨some 44, .mov (.t 43), none⟩,
  ⟨some 45, .fld 0 (.t 4), some (44, false)⟩,
  ⟨some 46, .load none (.t 45), some (44, false)⟩,
  ⟨some 47, .fld 0 (.t 1), some (44, false)⟩,
  ⟨some 48, .load none (.t 47), some (44, false)⟩,
  ⟨some 49, .bin .gtr (.t 46) (.t 48), some (44, false)⟩,
  ⟨some 50, .pick (.t 44) (.c (.bool true)) (.t 49), none⟩,
  ⟨some 51, .mov (.t 50), none⟩,
  ⟨some 52, .fld 1 (.t 4), some (51, false)⟩,
  ⟨some 53, .load none (.t 52), some (51, false)⟩,
  ⟨some 54, .bin .lss (.t 53) (.c (.int .i64 1)), some (51, false)⟩,
  ⟨some 55, .pick (.t 51) (.c (.bool true)) (.t 54), none⟩,
  ⟨some 56, .mov (.t 55), none⟩,
  ⟨some 57, .fld 1 (.t 4), some (56, false)⟩,
  ⟨some 58, .load none (.t 57), some (56, false)⟩,
  ⟨some 59, .fld 1 (.t 1), some (56, false)⟩,
  ⟨some 60, .load none (.t 59), some (56, false)⟩,
  ⟨some 61, .bin .gtr (.t 58) (.t 60), some (56, false)⟩,
  ⟨some 62, .pick (.t 56) (.c (.bool true)) (.t 61), none⟩]
def r142_7 : List IOper := [⟨some 2, .mov (.c (.bool false)), none⟩]
def r142_8 : List IOper := [⟨some 63, .bin .add (.t 37) (.c (.int .i64 1)), none⟩,
  ⟨some 37, .mov (.t 63), none⟩]
def r142_9 : List IOper := [⟨some 64, .fld 2 (.t 1), none⟩,
  ⟨some 65, .load none (.t 64), none⟩,
  ⟨some 66, .fld 0 (.t 1), none⟩,
  ⟨some 67, .load none (.t 66), none⟩,
  ⟨some 68, .fld 1 (.t 1), none⟩,
  ⟨some 69, .load none (.t 68), none⟩,
  ⟨some 70, .bin .mul (.t 67) (.t 69), none⟩,
  ⟨some 71, .bin .shr (.t 65) (.t 70), none⟩,
  ⟨some 72, .bin .eql (.t 71) (.c (.int .u32 0)), none⟩,
  ⟨some 2, .mov (.t 72), none⟩]
def b142 : ICode :=
 (.seq (.reg [(0, false), (1, false)] r142_0)
 (.seq (.seq (.reg [(0, false), (1, false), (2, false), (3, false), (4, false), (5, false), (6, false), (7, false), (8, false), (9, false), (10, false), (11, false), (12, false), (13, false), (14, false), (15, false), (16, false), (17, false), (18, false), (19, false), (20, false), (21, false), (22, false), (23, false), (24, false), (25, false)] r142_1)
 (.cond (.t 30) (.seq (.reg [(0, false)] r142_2)
 .ret)
 .skip))
 (.seq (.seq (.reg [(0, false), (1, false), (2, false), (3, false), (4, false), (5, false), (6, false)] r142_3)
 (.seq (.block 0 (.loop (.seq (.mask [1, 35, 36, 37]) (.seq (.reg [(0, false)] r142_4)
 (.seq (.cond (.t 38) .skip
 (.exit 0))
 (.seq (.seq (.block 1 (.seq (.reg [(0, false), (1, false), (2, false), (3, false)] r142_5)
 (.seq (.reg [(0, false), (1, false), (2, false), (3, false), (4, false), (5, false), (6, false), (7, false), (8, false), (9, false), (10, false), (11, false), (12, false), (13, false), (14, false), (15, false), (16, false), (17, false), (18, false), (19, false), (20, false), (21, false)] r142_6)
 (.cond (.t 62) (.seq (.reg [(0, false)] r142_7)
 .ret)
 .skip)))) (.mask [1, 35, 36, 37]))
 (.reg [(0, false), (1, false)] r142_8))))))) (.mask [1])))
 (.seq (.reg [(0, false), (1, false), (2, false), (3, false), (4, false), (5, false), (6, false), (7, false), (8, false), (9, false)] r142_9)
 .ret))))
def f142 : IFunc := { nt := 73, res := [((.t 2), none)], body := b142 }
def ps142 : List Phases := []
def ms142 : List (Option (List Nat)) := [none, some [1, 35, 36, 37], none, none, some [1, 35, 36, 37], some [1]]
-- (chatelaine/grid.Config).apart
def r143_0 : List IOper := [⟨some 1, .box 7 (.t 0), none⟩,
  ⟨some 2, .mov (.c (.int .i64 0)), none⟩]
def r143_1 : List IOper := [⟨some 3, .mov (.c (.int .i64 0)), none⟩]
def r143_2 : List IOper := [⟨some 5, .fld 0 (.t 1), none⟩,
  ⟨some 6, .load none (.t 5), none⟩,
  ⟨some 7, .mov (.c (.int .i64 0)), none⟩]
def r143_3 : List IOper := [⟨some 8, .bin .lss (.t 7) (.t 6), none⟩]
def r143_4 : List IOper := [⟨some 9, .mov (.t 7), none⟩,
  ⟨some 4, .mov (.t 9), none⟩]
def r143_5 : List IOper := [⟨some 10, .fld 3 (.t 1), none⟩,
  ⟨some 11, .fld 1 (.t 10), none⟩,
  ⟨some 12, .load none (.t 11), none⟩,
  ⟨some 13, .fld 5 (.t 1), none⟩,
  ⟨some 14, .fld 1 (.t 13), none⟩,
  ⟨some 15, .load none (.t 14), none⟩,
  ⟨some 16, .bin .add (.t 12) (.t 15), none⟩,
  ⟨some 17, .fld 1 (.t 1), none⟩,
  ⟨some 18, .load none (.t 17), none⟩,
  ⟨some 19, .fld 2 (.t 1), none⟩,
  ⟨some 20, .load none (.t 19), none⟩,
  ⟨some 21, .load (some 7) (.t 1), none⟩,
  ⟨some 22, .mov (.t 4), none⟩,
  ⟨some 23, .callF 141 [(.t 21), (.t 22)], none⟩,
  ⟨some 24, .bin .and (.t 20) (.t 23), none⟩,
  ⟨some 25, .callF 140 [(.t 24)], none⟩,
  ⟨some 26, .bin .add (.t 18) (.t 25), none⟩,
  ⟨some 27, .bin .leq (.t 16) (.t 26), none⟩]
def r143_6 : List IOper := [⟨some 28, .mov (.t 3), none⟩,
  ⟨some 29, .bin .add (.t 28) (.c (.int .i64 1)), none⟩,
  ⟨some 3, .mov (.t 29), none⟩]
def r143_7 : List IOper := [⟨some 30, .bin .add (.t 7) (.c (.int .i64 1)), none⟩,
  ⟨some 7, .mov (.t 30), none⟩]
def r143_8 : List IOper := [⟨some 31, .mov (.t 3), none⟩,
  ⟨some 2, .mov (.t 31), none⟩]
def b143 : ICode :=
 (.seq (.reg [(0, false), (1, false)] r143_0)
 (.seq (.reg [(0, false)] r143_1)
 (.seq (.seq (.reg [(0, false), (1, false), (2, false)] r143_2)
 (.seq (.block 0 (.loop (.seq (.mask [1, 3, 6, 7]) (.seq (.reg [(0, false)] r143_3)
 (.seq (.cond (.t 8) .skip
 (.exit 0))
 (.seq (.seq (.block 1 (.seq (.reg [(0, false), (1, false)] r143_4)
 (.seq (.reg [(0, false), (1, false), (2, false), (3, false), (4, false), (5, false), (6, false), (7, false), (8, false), (9, false), (10, false), (11, false), (12, false), (13, false), (2, true), (5, true), (8, true), (10, true), (14, false), (15, false), (2, true), (5, true), (8, true), (16, false), (17, false)] r143_5)
 (.seq (.cond (.t 27) (.reg [(0, false), (1, false), (2, false)] r143_6)
 .skip) (.mask [1, 3, 6, 7]))))) (.mask [1, 3, 6, 7]))
 (.reg [(0, false), (1, false)] r143_7))))))) (.mask [3])))
 (.seq (.reg [(0, false), (1, false)] r143_8)
 .ret))))
def f143 : IFunc := { nt := 32, res := [((.t 2), none)], body := b143 }
def ps143 : List Phases := [⟨[([(0, false), (1, false), (2, false), (3, false), (4, false), (5, false), (6, false), (7, false), (8, false), (9, false), (10, false), (11, false), (12, false)], 13), ([(2, true), (5, true), (8, true), (10, true), (14, false)], 15)], [(2, true), (5, true), (8, true), (16, false), (17, false)]⟩]
def ms143 : List (Option (List Nat)) := [some [1, 3, 6, 7], none, some [1, 3, 6, 7], some [1, 3, 6, 7], some [3]]
theorem ok13 : rfunc Try.prog Try.f13 ps13 ms13 = some f13 := by kernel_rfl
theorem ok59 : rfunc Try.prog Try.f59 ps59 ms59 = some f59 := by kernel_rfl
theorem ok61 : rfunc Try.prog Try.f61 ps61 ms61 = some f61 := by kernel_rfl
theorem ok62 : rfunc Try.prog Try.f62 ps62 ms62 = some f62 := by kernel_rfl
theorem ok63 : rfunc Try.prog Try.f63 ps63 ms63 = some f63 := by kernel_rfl
theorem ok93 : rfunc Try.prog Try.f93 ps93 ms93 = some f93 := by kernel_rfl
theorem ok94 : rfunc Try.prog Try.f94 ps94 ms94 = some f94 := by kernel_rfl
theorem ok98 : rfunc Try.prog Try.f98 ps98 ms98 = some f98 := by kernel_rfl
theorem ok99 : rfunc Try.prog Try.f99 ps99 ms99 = some f99 := by kernel_rfl
theorem ok100 : rfunc Try.prog Try.f100 ps100 ms100 = some f100 := by kernel_rfl
theorem ok101 : rfunc Try.prog Try.f101 ps101 ms101 = some f101 := by kernel_rfl
theorem ok102 : rfunc Try.prog Try.f102 ps102 ms102 = some f102 := by kernel_rfl
theorem ok103 : rfunc Try.prog Try.f103 ps103 ms103 = some f103 := by kernel_rfl
theorem ok104 : rfunc Try.prog Try.f104 ps104 ms104 = some f104 := by kernel_rfl
theorem ok105 : rfunc Try.prog Try.f105 ps105 ms105 = some f105 := by kernel_rfl
theorem ok117 : rfunc Try.prog Try.f117 ps117 ms117 = some f117 := by kernel_rfl
theorem ok122 : rfunc Try.prog Try.f122 ps122 ms122 = some f122 := by kernel_rfl
theorem ok123 : rfunc Try.prog Try.f123 ps123 ms123 = some f123 := by kernel_rfl
theorem ok124 : rfunc Try.prog Try.f124 ps124 ms124 = some f124 := by kernel_rfl
theorem ok129 : rfunc Try.prog Try.f129 ps129 ms129 = some f129 := by kernel_rfl
theorem ok130 : rfunc Try.prog Try.f130 ps130 ms130 = some f130 := by kernel_rfl
theorem ok131 : rfunc Try.prog Try.f131 ps131 ms131 = some f131 := by kernel_rfl
theorem ok134 : rfunc Try.prog Try.f134 ps134 ms134 = some f134 := by kernel_rfl
theorem ok135 : rfunc Try.prog Try.f135 ps135 ms135 = some f135 := by kernel_rfl
theorem ok136 : rfunc Try.prog Try.f136 ps136 ms136 = some f136 := by kernel_rfl
theorem ok137 : rfunc Try.prog Try.f137 ps137 ms137 = some f137 := by kernel_rfl
theorem ok138 : rfunc Try.prog Try.f138 ps138 ms138 = some f138 := by kernel_rfl
theorem ok139 : rfunc Try.prog Try.f139 ps139 ms139 = some f139 := by kernel_rfl
theorem ok140 : rfunc Try.prog Try.f140 ps140 ms140 = some f140 := by kernel_rfl
theorem ok141 : rfunc Try.prog Try.f141 ps141 ms141 = some f141 := by kernel_rfl
theorem ok142 : rfunc Try.prog Try.f142 ps142 ms142 = some f142 := by kernel_rfl
theorem ok143 : rfunc Try.prog Try.f143 ps143 ms143 = some f143 := by kernel_rfl
def T : FuncId → Option IFunc
  | 13 => some f13
  | 59 => some f59
  | 61 => some f61
  | 62 => some f62
  | 63 => some f63
  | 93 => some f93
  | 94 => some f94
  | 98 => some f98
  | 99 => some f99
  | 100 => some f100
  | 101 => some f101
  | 102 => some f102
  | 103 => some f103
  | 104 => some f104
  | 105 => some f105
  | 117 => some f117
  | 122 => some f122
  | 123 => some f123
  | 124 => some f124
  | 129 => some f129
  | 130 => some f130
  | 131 => some f131
  | 134 => some f134
  | 135 => some f135
  | 136 => some f136
  | 137 => some f137
  | 138 => some f138
  | 139 => some f139
  | 140 => some f140
  | 141 => some f141
  | 142 => some f142
  | 143 => some f143
  | _ => none
theorem T_ok : TOk Try.prog T := by
  intro f i h
  unfold T at h
  split at h <;> cases h
  · exact ⟨_, _, _, Try.func13, ok13⟩
  · exact ⟨_, _, _, Try.func59, ok59⟩
  · exact ⟨_, _, _, Try.func61, ok61⟩
  · exact ⟨_, _, _, Try.func62, ok62⟩
  · exact ⟨_, _, _, Try.func63, ok63⟩
  · exact ⟨_, _, _, Try.func93, ok93⟩
  · exact ⟨_, _, _, Try.func94, ok94⟩
  · exact ⟨_, _, _, Try.func98, ok98⟩
  · exact ⟨_, _, _, Try.func99, ok99⟩
  · exact ⟨_, _, _, Try.func100, ok100⟩
  · exact ⟨_, _, _, Try.func101, ok101⟩
  · exact ⟨_, _, _, Try.func102, ok102⟩
  · exact ⟨_, _, _, Try.func103, ok103⟩
  · exact ⟨_, _, _, Try.func104, ok104⟩
  · exact ⟨_, _, _, Try.func105, ok105⟩
  · exact ⟨_, _, _, Try.func117, ok117⟩
  · exact ⟨_, _, _, Try.func122, ok122⟩
  · exact ⟨_, _, _, Try.func123, ok123⟩
  · exact ⟨_, _, _, Try.func124, ok124⟩
  · exact ⟨_, _, _, Try.func129, ok129⟩
  · exact ⟨_, _, _, Try.func130, ok130⟩
  · exact ⟨_, _, _, Try.func131, ok131⟩
  · exact ⟨_, _, _, Try.func134, ok134⟩
  · exact ⟨_, _, _, Try.func135, ok135⟩
  · exact ⟨_, _, _, Try.func136, ok136⟩
  · exact ⟨_, _, _, Try.func137, ok137⟩
  · exact ⟨_, _, _, Try.func138, ok138⟩
  · exact ⟨_, _, _, Try.func139, ok139⟩
  · exact ⟨_, _, _, Try.func140, ok140⟩
  · exact ⟨_, _, _, Try.func141, ok141⟩
  · exact ⟨_, _, _, Try.func142, ok142⟩
  · exact ⟨_, _, _, Try.func143, ok143⟩
end Go.Proofs.YtdehmopdlbdmfaaJ
