/- The functions of the laws, told as the machine's; no conditions. -/
import Derived.Test.YtllagimocmdldaaProg
import Derived.Test.YtllagimocmdldaaM25
set_option maxRecDepth 100000
set_option linter.unusedVariables false
namespace Go.Proofs.YtllagimocmdldaaI
open Go Go.Proofs.YtllagimocmdldaaM
-- chatelaine/chatelainetop.ChatelaineTurns
def r13_0 : List IOper := [⟨some 4, .mov (.c (.bool false)), none⟩]
def r13_1 : List IOper := [⟨some 5, .mov (.c .nils), none⟩]
def r13_2 : List IOper := [⟨some 6, .alloc [(.int .u64 0), (.int .i64 0), (.int .u64 0), (.int .i64 0), (.int .u64 0), (.int .i64 0), (.int .u64 0), (.int .i64 0), (.int .u64 0), (.int .i64 0), (.int .u64 0), (.int .i64 0), (.int .u64 0), (.int .i64 0), (.int .u64 0), (.int .i64 0), (.int .u64 0), (.int .i64 0), (.int .u64 0), (.int .i64 0), (.int .u64 0), (.int .i64 0), (.int .u64 0), (.int .i64 0)], none⟩]
def r13_3 : List IOper := [⟨some 7, .mov (.c (.int .i64 0)), none⟩]
def r13_4 : List IOper := [⟨some 14, .mov (.t 7), none⟩,
  ⟨some 15, .mov (.t 0), none⟩,
  ⟨some 16, .lenL (.t 15), none⟩,
  ⟨some 17, .bin .lss (.t 14) (.t 16), none⟩,
  ⟨some 18, .mov (.t 17), none⟩,
  ⟨some 19, .mov (.t 7), some (18, true)⟩,
  ⟨some 20, .bin .lss (.t 19) (.c (.int .i64 60)), some (18, true)⟩,
  ⟨some 21, .pick (.t 18) (.t 20) (.c (.bool false)), none⟩]
def r13_5 : List IOper := [⟨some 24, .mov (.t 0), none⟩,
  ⟨some 25, .mov (.t 7), none⟩,
  ⟨some 26, .ixS 1 (.t 24) (.t 25), none⟩,
  ⟨some 27, .load none (.t 26), none⟩,
  ⟨some 28, .bin .rem (.t 27) (.c (.int .i64 12)), none⟩,
  ⟨some 29, .bin .add (.t 28) (.c (.int .i64 12)), none⟩,
  ⟨some 30, .bin .rem (.t 29) (.c (.int .i64 12)), none⟩,
  ⟨some 8, .mov (.t 30), none⟩]
def r13_6 : List IOper := [⟨some 32, .mov (.t 8), none⟩,
  ⟨some 33, .ixA 12 2 (.t 6) (.t 32), none⟩,
  ⟨some 34, .load (some 2) (.t 33), none⟩,
  ⟨some 35, .mov (.t 8), none⟩,
  ⟨some 36, .callF 38 [(.t 34), (.t 35)], none⟩,
  ⟨some 31, .mov (.t 36), none⟩,
  ⟨some 37, .ext (.t 31) 0, none⟩,
  ⟨some 38, .ext (.t 31) 1, none⟩,
  ⟨some 9, .alloc [(.int .u64 0), (.int .i64 0)], none⟩,
  ⟨none, .store 2 (.t 9) (.t 37), none⟩,
  ⟨some 10, .mov (.t 38), none⟩]
def r13_7 : List IOper := [⟨some 39, .mov (.t 10), none⟩,
  ⟨some 40, .bin .neq (.t 39) (.c (.int .i64 0)), none⟩,
  ⟨some 41, .mov (.t 40), none⟩,
  ⟨some 42, .load (some 2) (.t 9), some (41, false)⟩,
  ⟨some 43, .mov (.t 8), some (41, false)⟩,
  ⟨some 44, .ixA 12 2 (.t 6) (.t 43), some (41, false)⟩,
  ⟨some 45, .load (some 2) (.t 44), some (41, false)⟩,
  ⟨some 46, .callF 40 [(.t 42), (.t 45)], some (41, false)⟩,
  ⟨some 47, .bin .leq (.t 46) (.c (.int .i64 0)), some (41, false)⟩,
  ⟨some 48, .pick (.t 41) (.c (.bool true)) (.t 47), none⟩]
def r13_8 : List IOper := [⟨some 4, .mov (.c (.bool false)), none⟩]
def r13_9 : List IOper := [⟨some 49, .mov (.t 5), none⟩,
  ⟨some 50, .lenL (.t 49), none⟩,
  ⟨some 51, .mov (.c (.int .i64 0)), none⟩]
def r13_10 : List IOper := [⟨some 52, .bin .lss (.t 51) (.t 50), none⟩]
def r13_11 : List IOper := [⟨some 53, .ixS 2 (.t 49) (.t 51), none⟩,
  ⟨some 54, .load (some 2) (.t 53), none⟩,
  ⟨some 12, .alloc [(.int .u64 0), (.int .i64 0)], none⟩,
  ⟨none, .store 2 (.t 12) (.t 54), none⟩]
def r13_12 : List IOper := [⟨some 55, .load (some 2) (.t 12), none⟩,
  ⟨some 56, .load (some 2) (.t 9), none⟩,
  ⟨some 57, .eqs false [1, 1] (.t 55) (.t 56), none⟩,
  ⟨some 58, .mov (.t 57), none⟩,
  ⟨some 59, .load (some 2) (.t 12), some (58, false)⟩,
  ⟨some 60, .load (some 2) (.t 9), some (58, false)⟩,
  ⟨some 61, .callF 40 [(.t 59), (.t 60)], some (58, false)⟩,
  ⟨some 62, .bin .eql (.t 61) (.c (.int .i64 0)), some (58, false)⟩,
  ⟨some 63, .pick (.t 58) (.c (.bool true)) (.t 62), none⟩,
  ⟨some 64, .mov (.t 63), none⟩,
  ⟨some 65, .load (some 2) (.t 12), some (64, false)⟩,
  ⟨some 66, .load (some 2) (.t 9), some (64, false)⟩,
  ⟨some 67, .callF 40 [(.t 65), (.t 66)], some (64, false)⟩,
  ⟨some 68, .load (some 2) (.t 9), some (64, false)⟩,
  ⟨some 69, .load (some 2) (.t 12), some (64, false)⟩,
  ⟨some 70, .callF 40 [(.t 68), (.t 69)], some (64, false)⟩,
  ⟨some 71, .un .neg (.t 70), some (64, false)⟩,
  ⟨some 72, .bin .neq (.t 67) (.t 71), some (64, false)⟩,
  ⟨some 73, .pick (.t 64) (.c (.bool true)) (.t 72), none⟩]
def r13_13 : List IOper := [⟨some 4, .mov (.c (.bool false)), none⟩]
def r13_14 : List IOper := [⟨some 74, .bin .add (.t 51) (.c (.int .i64 1)), none⟩,
  ⟨some 51, .mov (.t 74), none⟩]
def r13_15 : List IOper := [⟨some 75, .mov (.t 5), none⟩,
  ⟨some 76, .load (some 2) (.t 9), none⟩,
  ⟨some 77, .buildS 2 1 [(.int .u64 0), (.int .i64 0)] [(0, (.t 76))], none⟩,
  ⟨some 78, .app 2 16 (.t 75) (.t 77), none⟩,
  ⟨some 5, .mov (.t 78), none⟩]
def r13_16 : List IOper := [⟨some 79, .mov (.c (.int .i64 0)), none⟩]
def r13_17 : List IOper := [⟨some 80, .bin .lss (.t 79) (.c (.int .i64 12)), none⟩]
def r13_18 : List IOper := [⟨some 81, .mov (.t 79), none⟩,
  ⟨some 13, .mov (.t 81), none⟩]
def r13_19 : List IOper := [⟨some 82, .mov (.t 13), none⟩,
  ⟨some 83, .mov (.t 8), none⟩,
  ⟨some 84, .bin .eql (.t 82) (.t 83), none⟩,
  ⟨some 85, .mov (.t 84), none⟩,
  ⟨some 86, .mov (.t 7), some (85, false)⟩,
  ⟨some 87, .mov (.t 1), some (85, false)⟩,
  ⟨some 88, .lenL (.t 87), some (85, false)⟩,
  ⟨some 89, .bin .geq (.t 86) (.t 88), some (85, false)⟩,
  ⟨some 90, .pick (.t 85) (.c (.bool true)) (.t 89), none⟩,
  ⟨some 91, .mov (.t 90), none⟩,
  ⟨some 92, .mov (.t 1), some (91, false)⟩,
  ⟨some 93, .mov (.t 7), some (91, false)⟩,
  ⟨some 94, .ixS 1 (.t 92) (.t 93), some (91, false)⟩,
  ⟨some 95, .load none (.t 94), some (91, false)⟩,
  ⟨some 96, .un .not (.t 95), some (91, false)⟩,
  ⟨some 97, .pick (.t 91) (.c (.bool true)) (.t 96), none⟩]
def r13_20 : List IOper := [⟨some 98, .mov (.t 13), none⟩,
  ⟨some 99, .mov (.t 13), none⟩,
  ⟨some 100, .ixA 12 2 (.t 6) (.t 99), none⟩,
  ⟨some 101, .load (some 2) (.t 100), none⟩,
  ⟨some 102, .load (some 2) (.t 9), none⟩,
  ⟨some 103, .buildS 2 2 [(.int .u64 0), (.int .i64 0)] [(0, (.t 101)), (1, (.t 102))], none⟩,
  ⟨some 104, .callF 43 [(.t 103)], none⟩,
  ⟨some 105, .ixA 12 2 (.t 6) (.t 98), none⟩,
  ⟨none, .store 2 (.t 105) (.t 104), none⟩]
def r13_21 : List IOper := [⟨some 106, .bin .add (.t 79) (.c (.int .i64 1)), none⟩,
  ⟨some 79, .mov (.t 106), none⟩]
def r13_22 : List IOper := [⟨some 22, .mov (.t 7), none⟩,
  ⟨some 23, .bin .add (.t 22) (.c (.int .i64 1)), none⟩,
  ⟨some 7, .mov (.t 23), none⟩]
def r13_23 : List IOper := [⟨some 4, .mov (.c (.bool true)), none⟩]
def b13 : ICode :=
 (.seq (.reg [(0, false)] r13_0)
 (.seq (.reg [(0, false)] r13_1)
 (.seq (.reg [(0, false)] r13_2)
 (.seq (.seq (.reg [(0, false)] r13_3)
 (.seq (.block 0 (.loop (.seq (.mask [0, 1, 5, 6, 7]) (.seq (.seq (.reg [(0, false), (1, false), (2, false), (3, false), (4, false), (5, false), (6, false), (7, false)] r13_4)
 (.cond (.t 21) .skip
 (.exit 0)))
 (.seq (.seq (.block 1 (.seq (.reg [(0, false), (1, false), (2, false), (3, false), (4, false), (5, false), (6, false), (7, false)] r13_5)
 (.seq (.reg [(0, false), (1, false), (2, false), (3, false), (4, false), (5, false), (6, false), (7, false), (8, false), (9, false), (10, false)] r13_6)
 (.seq (.seq (.reg [(0, false), (1, false), (2, false), (3, false), (4, false), (5, false), (6, false), (7, false), (8, false), (9, false)] r13_7)
 (.cond (.t 48) (.seq (.reg [(0, false)] r13_8)
 .ret)
 .skip))
 (.seq (.seq (.reg [(0, false), (1, false), (2, false)] r13_9)
 (.seq (.block 2 (.loop (.seq (.mask [0, 1, 5, 6, 7, 8, 9, 49, 50, 51]) (.seq (.reg [(0, false)] r13_10)
 (.seq (.cond (.t 52) .skip
 (.exit 2))
 (.seq (.seq (.block 3 (.seq (.reg [(0, false), (1, false), (2, false), (3, false)] r13_11)
 (.seq (.reg [(0, false), (1, false), (2, false), (3, false), (4, false), (5, false), (6, false), (7, false), (8, false), (9, false), (10, false), (11, false), (13, false), (14, false), (12, false), (13, true), (14, true), (15, false), (16, false), (17, false), (18, false)] r13_12)
 (.cond (.t 73) (.seq (.reg [(0, false)] r13_13)
 .ret)
 .skip)))) (.mask [0, 1, 5, 6, 7, 8, 9, 49, 50, 51]))
 (.reg [(0, false), (1, false)] r13_14))))))) (.mask [0, 1, 5, 6, 7, 8, 9])))
 (.seq (.reg [(0, false), (1, false), (2, false), (3, false), (4, false)] r13_15)
 (.seq (.reg [(0, false)] r13_16)
 (.seq (.block 4 (.loop (.seq (.mask [0, 1, 5, 6, 7, 8, 9, 79]) (.seq (.reg [(0, false)] r13_17)
 (.seq (.cond (.t 80) .skip
 (.exit 4))
 (.seq (.seq (.block 5 (.seq (.reg [(0, false), (1, false)] r13_18)
 (.seq (.reg [(0, false), (1, false), (2, false), (3, false), (4, false), (5, false), (6, false), (7, false), (8, false), (9, false), (10, false), (11, false), (12, false), (13, false), (14, false), (15, false)] r13_19)
 (.seq (.cond (.t 97) (.reg [(0, false), (1, false), (2, false), (3, false), (4, false), (5, false), (6, false), (7, false), (8, false)] r13_20)
 .skip) (.mask [0, 1, 5, 6, 7, 8, 9, 79]))))) (.mask [0, 1, 5, 6, 7, 8, 9, 79]))
 (.reg [(0, false), (1, false)] r13_21))))))) (.mask [0, 1, 5, 6, 7]))))))))) (.mask [0, 1, 5, 6, 7]))
 (.reg [(0, false), (1, false), (2, false)] r13_22)))))) (.mask [])))
 (.seq (.reg [(0, false)] r13_23)
 .ret)))))
def f13 : IFunc := { nt := 107, res := [((.t 4), none)], body := b13 }
def ps13 : List Phases := [⟨[([(0, false), (1, false), (2, false), (3, false), (4, false), (5, false), (6, false)], 7)], [(8, false), (9, false)]⟩, ⟨[([(0, false), (1, false), (2, false), (3, false), (4, false), (5, false)], 6), ([(7, false), (8, false), (9, false), (10, false), (11, false), (13, false), (14, false)], 12), ([(13, true), (14, true)], 15)], [(16, false), (17, false), (18, false)]⟩, ⟨[([(0, false), (1, false), (2, false), (3, false), (4, false), (5, false)], 6), ([(7, false)], 8)], []⟩]
def ms13 : List (Option (List Nat)) := [some [0, 1, 5, 6, 7], none, none, some [0, 1, 5, 6, 7, 8, 9, 49, 50, 51], none, none, some [0, 1, 5, 6, 7, 8, 9, 49, 50, 51], some [0, 1, 5, 6, 7, 8, 9], some [0, 1, 5, 6, 7, 8, 9, 79], none, some [0, 1, 5, 6, 7, 8, 9, 79], some [0, 1, 5, 6, 7, 8, 9, 79], some [0, 1, 5, 6, 7], some [0, 1, 5, 6, 7], some []]
-- chatelaine/ballot.Next
def r38_0 : List IOper := [⟨some 2, .box 2 (.t 0), none⟩,
  ⟨some 4, .alloc [(.int .u64 0), (.int .i64 0)], none⟩,
  ⟨some 5, .mov (.c (.int .i64 0)), none⟩]
def r38_1 : List IOper := [⟨some 7, .mov (.t 1), none⟩,
  ⟨some 8, .bin .lss (.t 7) (.c (.int .i64 0)), none⟩,
  ⟨some 9, .mov (.t 8), none⟩,
  ⟨some 10, .mov (.t 1), some (9, false)⟩,
  ⟨some 11, .bin .geq (.t 10) (.c (.int .i64 12)), some (9, false)⟩,
  ⟨some 12, .pick (.t 9) (.c (.bool true)) (.t 11), none⟩,
  ⟨some 6, .mov (.t 12), none⟩]
def r38_2 : List IOper := [⟨some 13, .build [(.int .u64 0), (.int .i64 0)] [], none⟩,
  ⟨none, .store 2 (.t 4) (.t 13), none⟩,
  ⟨some 5, .mov (.c (.int .i64 2)), none⟩]
def r38_3 : List IOper := [⟨some 15, .fld 0 (.t 2), none⟩,
  ⟨some 16, .load none (.t 15), none⟩,
  ⟨some 17, .bin .gtr (.t 16) (.c (.int .u64 0)), none⟩,
  ⟨some 18, .mov (.t 17), none⟩,
  ⟨some 19, .mov (.t 1), some (18, true)⟩,
  ⟨some 20, .fld 1 (.t 2), some (18, true)⟩,
  ⟨some 21, .load none (.t 20), some (18, true)⟩,
  ⟨some 22, .bin .gtr (.t 19) (.t 21), some (18, true)⟩,
  ⟨some 23, .pick (.t 18) (.t 22) (.c (.bool false)), none⟩,
  ⟨some 14, .mov (.t 23), none⟩]
def r38_4 : List IOper := [⟨some 24, .fld 0 (.t 2), none⟩,
  ⟨some 25, .load none (.t 24), none⟩,
  ⟨some 26, .mov (.t 1), none⟩,
  ⟨some 27, .build [(.int .u64 0), (.int .i64 0)] [(0, 1, (.t 25)), (1, 1, (.t 26))], none⟩,
  ⟨none, .store 2 (.t 4) (.t 27), none⟩,
  ⟨some 5, .mov (.c (.int .i64 0)), none⟩]
def r38_5 : List IOper := [⟨some 29, .fld 0 (.t 2), none⟩,
  ⟨some 30, .load none (.t 29), none⟩,
  ⟨some 31, .bin .eql (.t 30) (.c (.int .u64 18446744073709551615)), none⟩,
  ⟨some 28, .mov (.t 31), none⟩]
def r38_6 : List IOper := [⟨some 32, .build [(.int .u64 0), (.int .i64 0)] [], none⟩,
  ⟨none, .store 2 (.t 4) (.t 32), none⟩,
  ⟨some 5, .mov (.c (.int .i64 19)), none⟩]
def r38_7 : List IOper := [⟨some 33, .fld 0 (.t 2), none⟩,
  ⟨some 34, .load none (.t 33), none⟩,
  ⟨some 35, .bin .add (.t 34) (.c (.int .u64 1)), none⟩,
  ⟨some 36, .mov (.t 1), none⟩,
  ⟨some 37, .build [(.int .u64 0), (.int .i64 0)] [(0, 1, (.t 35)), (1, 1, (.t 36))], none⟩,
  ⟨none, .store 2 (.t 4) (.t 37), none⟩,
  ⟨some 5, .mov (.c (.int .i64 0)), none⟩]
def b38 : ICode :=
 (.seq (.reg [(0, false), (1, false), (2, false)] r38_0)
 (.seq (.seq (.block 0 (.seq (.reg [(0, false), (1, false), (2, false), (3, false), (4, false), (5, false), (6, false)] r38_1)
 (.cond (.t 6) (.seq (.reg [(0, false), (1, false), (2, false)] r38_2)
 .ret)
 (.seq (.reg [(0, false), (1, false), (2, false), (3, false), (4, false), (5, false), (6, false), (7, false), (8, false), (9, false)] r38_3)
 (.cond (.t 14) (.seq (.reg [(0, false), (1, false), (2, false), (3, false), (4, false), (5, false)] r38_4)
 .ret)
 (.seq (.reg [(0, false), (1, false), (2, false), (3, false)] r38_5)
 (.cond (.t 28) (.seq (.reg [(0, false), (1, false), (2, false)] r38_6)
 .ret)
 .skip))))))) (.mask [1, 2, 4]))
 (.seq (.reg [(0, false), (1, false), (2, false), (3, false), (4, false), (5, false), (6, false)] r38_7)
 .ret)))
def f38 : IFunc := { nt := 38, res := [((.t 4), some (some 2)), ((.t 5), none)], body := b38 }
def ps38 : List Phases := []
def ms38 : List (Option (List Nat)) := [none, none, none, some [1, 2, 4]]
-- chatelaine/ballot.Compare
def r40_0 : List IOper := [⟨some 2, .box 2 (.t 0), none⟩,
  ⟨some 3, .box 2 (.t 1), none⟩,
  ⟨some 4, .mov (.c (.int .i64 0)), none⟩]
def r40_1 : List IOper := [⟨some 5, .fld 0 (.t 2), none⟩,
  ⟨some 6, .load none (.t 5), none⟩,
  ⟨some 7, .fld 0 (.t 3), none⟩,
  ⟨some 8, .load none (.t 7), none⟩,
  ⟨some 9, .callF 50 [(.t 6), (.t 8)], none⟩,
  ⟨some 10, .fld 1 (.t 2), none⟩,
  ⟨some 11, .load none (.t 10), none⟩,
  ⟨some 12, .fld 1 (.t 3), none⟩,
  ⟨some 13, .load none (.t 12), none⟩,
  ⟨some 14, .callF 51 [(.t 11), (.t 13)], none⟩,
  ⟨some 15, .buildS 1 2 [(.int .i64 0)] [(0, (.t 9)), (1, (.t 14))], none⟩,
  ⟨some 16, .callF 49 [(.t 15)], none⟩,
  ⟨some 4, .mov (.t 16), none⟩]
def b40 : ICode :=
 (.seq (.reg [(0, false), (1, false), (2, false)] r40_0)
 (.seq (.reg [(0, false), (1, false), (2, false), (3, false), (5, false), (6, false), (7, false), (8, false), (4, false), (6, true), (8, true), (9, false), (10, false), (11, false), (12, false)] r40_1)
 .ret))
def f40 : IFunc := { nt := 17, res := [((.t 4), none)], body := b40 }
def ps40 : List Phases := [⟨[([(0, false), (1, false), (2, false), (3, false), (5, false), (6, false), (7, false), (8, false)], 4), ([(6, true), (8, true)], 9), ([(10, false)], 11)], [(12, false)]⟩]
def ms40 : List (Option (List Nat)) := []
-- chatelaine/ballot.Max
def r43_0 : List IOper := [⟨some 2, .alloc [(.int .u64 0), (.int .i64 0)], none⟩]
def r43_1 : List IOper := [⟨some 3, .alloc [(.int .u64 0), (.int .i64 0)], none⟩]
def r43_2 : List IOper := [⟨some 6, .mov (.t 0), none⟩,
  ⟨some 7, .lenL (.t 6), none⟩,
  ⟨some 8, .mov (.c (.int .i64 0)), none⟩]
def r43_3 : List IOper := [⟨some 9, .bin .lss (.t 8) (.t 7), none⟩]
def r43_4 : List IOper := [⟨some 10, .ixS 2 (.t 6) (.t 8), none⟩,
  ⟨some 11, .load (some 2) (.t 10), none⟩,
  ⟨some 5, .alloc [(.int .u64 0), (.int .i64 0)], none⟩,
  ⟨none, .store 2 (.t 5) (.t 11), none⟩]
def r43_5 : List IOper := [⟨some 12, .load (some 2) (.t 5), none⟩,
  ⟨some 13, .load (some 2) (.t 3), none⟩,
  ⟨some 14, .callF 40 [(.t 12), (.t 13)], none⟩,
  ⟨some 15, .bin .gtr (.t 14) (.c (.int .i64 0)), none⟩]
def r43_6 : List IOper := [⟨some 16, .load (some 2) (.t 5), none⟩,
  ⟨none, .store 2 (.t 3) (.t 16), none⟩]
def r43_7 : List IOper := [⟨some 17, .bin .add (.t 8) (.c (.int .i64 1)), none⟩,
  ⟨some 8, .mov (.t 17), none⟩]
def r43_8 : List IOper := [⟨some 18, .load (some 2) (.t 3), none⟩,
  ⟨none, .store 2 (.t 2) (.t 18), none⟩]
def b43 : ICode :=
 (.seq (.reg [(0, false)] r43_0)
 (.seq (.reg [(0, false)] r43_1)
 (.seq (.seq (.reg [(0, false), (1, false), (2, false)] r43_2)
 (.seq (.block 0 (.loop (.seq (.mask [2, 3, 6, 7, 8]) (.seq (.reg [(0, false)] r43_3)
 (.seq (.cond (.t 9) .skip
 (.exit 0))
 (.seq (.seq (.block 1 (.seq (.reg [(0, false), (1, false), (2, false), (3, false)] r43_4)
 (.seq (.reg [(0, false), (1, false), (2, false), (3, false)] r43_5)
 (.seq (.cond (.t 15) (.reg [(0, false), (1, false)] r43_6)
 .skip) (.mask [2, 3, 6, 7, 8]))))) (.mask [2, 3, 6, 7, 8]))
 (.reg [(0, false), (1, false)] r43_7))))))) (.mask [2, 3])))
 (.seq (.reg [(0, false), (1, false)] r43_8)
 .ret))))
def f43 : IFunc := { nt := 19, res := [((.t 2), some (some 2))], body := b43 }
def ps43 : List Phases := []
def ms43 : List (Option (List Nat)) := [some [2, 3, 6, 7, 8], none, some [2, 3, 6, 7, 8], some [2, 3, 6, 7, 8], some [2, 3]]
-- cmp.Or[int]
def r49_0 : List IOper := [⟨some 2, .mov (.c (.int .i64 0)), none⟩]
def r49_1 : List IOper := [⟨some 3, .mov (.c (.int .i64 0)), none⟩]
def r49_2 : List IOper := [⟨some 6, .mov (.t 0), none⟩,
  ⟨some 7, .lenL (.t 6), none⟩,
  ⟨some 8, .mov (.c (.int .i64 0)), none⟩]
def r49_3 : List IOper := [⟨some 9, .bin .lss (.t 8) (.t 7), none⟩]
def r49_4 : List IOper := [⟨some 10, .ixS 1 (.t 6) (.t 8), none⟩,
  ⟨some 11, .load none (.t 10), none⟩,
  ⟨some 5, .mov (.t 11), none⟩]
def r49_5 : List IOper := [⟨some 12, .mov (.t 5), none⟩,
  ⟨some 13, .mov (.t 3), none⟩,
  ⟨some 14, .bin .neq (.t 12) (.t 13), none⟩]
def r49_6 : List IOper := [⟨some 15, .mov (.t 5), none⟩,
  ⟨some 2, .mov (.t 15), none⟩]
def r49_7 : List IOper := [⟨some 16, .bin .add (.t 8) (.c (.int .i64 1)), none⟩,
  ⟨some 8, .mov (.t 16), none⟩]
def r49_8 : List IOper := [⟨some 17, .mov (.t 3), none⟩,
  ⟨some 2, .mov (.t 17), none⟩]
def b49 : ICode :=
 (.seq (.reg [(0, false)] r49_0)
 (.seq (.reg [(0, false)] r49_1)
 (.seq (.seq (.reg [(0, false), (1, false), (2, false)] r49_2)
 (.seq (.block 0 (.loop (.seq (.mask [3, 6, 7, 8]) (.seq (.reg [(0, false)] r49_3)
 (.seq (.cond (.t 9) .skip
 (.exit 0))
 (.seq (.seq (.block 1 (.seq (.reg [(0, false), (1, false), (2, false)] r49_4)
 (.seq (.reg [(0, false), (1, false), (2, false)] r49_5)
 (.cond (.t 14) (.seq (.reg [(0, false), (1, false)] r49_6)
 .ret)
 .skip)))) (.mask [3, 6, 7, 8]))
 (.reg [(0, false), (1, false)] r49_7))))))) (.mask [3])))
 (.seq (.reg [(0, false), (1, false)] r49_8)
 .ret))))
def f49 : IFunc := { nt := 18, res := [((.t 2), none)], body := b49 }
def ps49 : List Phases := []
def ms49 : List (Option (List Nat)) := [some [3, 6, 7, 8], none, none, some [3, 6, 7, 8], some [3]]
-- cmp.Compare[uint64]
def r50_0 : List IOper := [⟨some 4, .mov (.c (.int .i64 0)), none⟩]
def r50_1 : List IOper := [⟨some 7, .mov (.t 0), none⟩,
  ⟨some 8, .callF 52 [(.t 7)], none⟩,
  ⟨some 5, .mov (.t 8), none⟩]
def r50_2 : List IOper := [⟨some 9, .mov (.t 1), none⟩,
  ⟨some 10, .callF 52 [(.t 9)], none⟩,
  ⟨some 6, .mov (.t 10), none⟩]
def r50_3 : List IOper := [⟨some 11, .mov (.t 5), none⟩]
def r50_4 : List IOper := [⟨some 12, .mov (.t 6), none⟩]
def r50_5 : List IOper := [⟨some 4, .mov (.c (.int .i64 0)), none⟩]
def r50_6 : List IOper := [⟨some 4, .mov (.c (.int .i64 (-1))), none⟩]
def r50_7 : List IOper := [⟨some 13, .mov (.t 6), none⟩]
def r50_8 : List IOper := [⟨some 4, .mov (.c (.int .i64 1)), none⟩]
def r50_9 : List IOper := [⟨some 14, .mov (.t 0), none⟩,
  ⟨some 15, .mov (.t 1), none⟩,
  ⟨some 16, .bin .lss (.t 14) (.t 15), none⟩]
def r50_10 : List IOper := [⟨some 4, .mov (.c (.int .i64 (-1))), none⟩]
def r50_11 : List IOper := [⟨some 17, .mov (.t 0), none⟩,
  ⟨some 18, .mov (.t 1), none⟩,
  ⟨some 19, .bin .gtr (.t 17) (.t 18), none⟩]
def r50_12 : List IOper := [⟨some 4, .mov (.c (.int .i64 1)), none⟩]
def r50_13 : List IOper := [⟨some 4, .mov (.c (.int .i64 0)), none⟩]
def b50 : ICode :=
 (.seq (.reg [(0, false)] r50_0)
 (.seq (.reg [(0, false), (1, false), (2, false)] r50_1)
 (.seq (.reg [(0, false), (1, false), (2, false)] r50_2)
 (.seq (.seq (.reg [(0, false)] r50_3)
 (.cond (.t 11) (.seq (.seq (.reg [(0, false)] r50_4)
 (.cond (.t 12) (.seq (.reg [(0, false)] r50_5)
 .ret)
 .skip))
 (.seq (.reg [(0, false)] r50_6)
 .ret))
 .skip))
 (.seq (.seq (.reg [(0, false)] r50_7)
 (.cond (.t 13) (.seq (.reg [(0, false)] r50_8)
 .ret)
 .skip))
 (.seq (.seq (.reg [(0, false), (1, false), (2, false)] r50_9)
 (.cond (.t 16) (.seq (.reg [(0, false)] r50_10)
 .ret)
 .skip))
 (.seq (.seq (.reg [(0, false), (1, false), (2, false)] r50_11)
 (.cond (.t 19) (.seq (.reg [(0, false)] r50_12)
 .ret)
 .skip))
 (.seq (.reg [(0, false)] r50_13)
 .ret))))))))
def f50 : IFunc := { nt := 20, res := [((.t 4), none)], body := b50 }
def ps50 : List Phases := []
def ms50 : List (Option (List Nat)) := [none, none, none, none, none]
-- cmp.Compare[int]
def r51_0 : List IOper := [⟨some 4, .mov (.c (.int .i64 0)), none⟩]
def r51_1 : List IOper := [⟨some 7, .mov (.t 0), none⟩,
  ⟨some 8, .callF 53 [(.t 7)], none⟩,
  ⟨some 5, .mov (.t 8), none⟩]
def r51_2 : List IOper := [⟨some 9, .mov (.t 1), none⟩,
  ⟨some 10, .callF 53 [(.t 9)], none⟩,
  ⟨some 6, .mov (.t 10), none⟩]
def r51_3 : List IOper := [⟨some 11, .mov (.t 5), none⟩]
def r51_4 : List IOper := [⟨some 12, .mov (.t 6), none⟩]
def r51_5 : List IOper := [⟨some 4, .mov (.c (.int .i64 0)), none⟩]
def r51_6 : List IOper := [⟨some 4, .mov (.c (.int .i64 (-1))), none⟩]
def r51_7 : List IOper := [⟨some 13, .mov (.t 6), none⟩]
def r51_8 : List IOper := [⟨some 4, .mov (.c (.int .i64 1)), none⟩]
def r51_9 : List IOper := [⟨some 14, .mov (.t 0), none⟩,
  ⟨some 15, .mov (.t 1), none⟩,
  ⟨some 16, .bin .lss (.t 14) (.t 15), none⟩]
def r51_10 : List IOper := [⟨some 4, .mov (.c (.int .i64 (-1))), none⟩]
def r51_11 : List IOper := [⟨some 17, .mov (.t 0), none⟩,
  ⟨some 18, .mov (.t 1), none⟩,
  ⟨some 19, .bin .gtr (.t 17) (.t 18), none⟩]
def r51_12 : List IOper := [⟨some 4, .mov (.c (.int .i64 1)), none⟩]
def r51_13 : List IOper := [⟨some 4, .mov (.c (.int .i64 0)), none⟩]
def b51 : ICode :=
 (.seq (.reg [(0, false)] r51_0)
 (.seq (.reg [(0, false), (1, false), (2, false)] r51_1)
 (.seq (.reg [(0, false), (1, false), (2, false)] r51_2)
 (.seq (.seq (.reg [(0, false)] r51_3)
 (.cond (.t 11) (.seq (.seq (.reg [(0, false)] r51_4)
 (.cond (.t 12) (.seq (.reg [(0, false)] r51_5)
 .ret)
 .skip))
 (.seq (.reg [(0, false)] r51_6)
 .ret))
 .skip))
 (.seq (.seq (.reg [(0, false)] r51_7)
 (.cond (.t 13) (.seq (.reg [(0, false)] r51_8)
 .ret)
 .skip))
 (.seq (.seq (.reg [(0, false), (1, false), (2, false)] r51_9)
 (.cond (.t 16) (.seq (.reg [(0, false)] r51_10)
 .ret)
 .skip))
 (.seq (.seq (.reg [(0, false), (1, false), (2, false)] r51_11)
 (.cond (.t 19) (.seq (.reg [(0, false)] r51_12)
 .ret)
 .skip))
 (.seq (.reg [(0, false)] r51_13)
 .ret))))))))
def f51 : IFunc := { nt := 20, res := [((.t 4), none)], body := b51 }
def ps51 : List Phases := []
def ms51 : List (Option (List Nat)) := [none, none, none, none, none]
-- cmp.isNaN[uint64]
def r52_0 : List IOper := [⟨some 2, .mov (.c (.bool false)), none⟩]
def r52_1 : List IOper := [⟨some 3, .mov (.t 0), none⟩,
  ⟨some 4, .mov (.t 0), none⟩,
  ⟨some 5, .bin .neq (.t 3) (.t 4), none⟩,
  ⟨some 2, .mov (.t 5), none⟩]
def b52 : ICode :=
 (.seq (.reg [(0, false)] r52_0)
 (.seq (.reg [(0, false), (1, false), (2, false), (3, false)] r52_1)
 .ret))
def f52 : IFunc := { nt := 6, res := [((.t 2), none)], body := b52 }
def ps52 : List Phases := []
def ms52 : List (Option (List Nat)) := []
-- cmp.isNaN[int]
def r53_0 : List IOper := [⟨some 2, .mov (.c (.bool false)), none⟩]
def r53_1 : List IOper := [⟨some 3, .mov (.t 0), none⟩,
  ⟨some 4, .mov (.t 0), none⟩,
  ⟨some 5, .bin .neq (.t 3) (.t 4), none⟩,
  ⟨some 2, .mov (.t 5), none⟩]
def b53 : ICode :=
 (.seq (.reg [(0, false)] r53_0)
 (.seq (.reg [(0, false), (1, false), (2, false), (3, false)] r53_1)
 .ret))
def f53 : IFunc := { nt := 6, res := [((.t 2), none)], body := b53 }
def ps53 : List Phases := []
def ms53 : List (Option (List Nat)) := []
theorem ok13 : rfunc Try.prog Try.f13 ps13 ms13 = some f13 := by kernel_rfl
theorem ok38 : rfunc Try.prog Try.f38 ps38 ms38 = some f38 := by kernel_rfl
theorem ok40 : rfunc Try.prog Try.f40 ps40 ms40 = some f40 := by kernel_rfl
theorem ok43 : rfunc Try.prog Try.f43 ps43 ms43 = some f43 := by kernel_rfl
theorem ok49 : rfunc Try.prog Try.f49 ps49 ms49 = some f49 := by kernel_rfl
theorem ok50 : rfunc Try.prog Try.f50 ps50 ms50 = some f50 := by kernel_rfl
theorem ok51 : rfunc Try.prog Try.f51 ps51 ms51 = some f51 := by kernel_rfl
theorem ok52 : rfunc Try.prog Try.f52 ps52 ms52 = some f52 := by kernel_rfl
theorem ok53 : rfunc Try.prog Try.f53 ps53 ms53 = some f53 := by kernel_rfl
def T : FuncId → Option IFunc
  | 13 => some f13
  | 38 => some f38
  | 40 => some f40
  | 43 => some f43
  | 49 => some f49
  | 50 => some f50
  | 51 => some f51
  | 52 => some f52
  | 53 => some f53
  | _ => none
theorem T_ok : TOk Try.prog T := by
  intro f i h
  unfold T at h
  split at h <;> cases h
  · exact .inl ⟨_, _, _, Try.func13, ok13⟩
  · exact .inl ⟨_, _, _, Try.func38, ok38⟩
  · exact .inl ⟨_, _, _, Try.func40, ok40⟩
  · exact .inl ⟨_, _, _, Try.func43, ok43⟩
  · exact .inl ⟨_, _, _, Try.func49, ok49⟩
  · exact .inl ⟨_, _, _, Try.func50, ok50⟩
  · exact .inl ⟨_, _, _, Try.func51, ok51⟩
  · exact .inl ⟨_, _, _, Try.func52, ok52⟩
  · exact .inl ⟨_, _, _, Try.func53, ok53⟩
end Go.Proofs.YtllagimocmdldaaI
