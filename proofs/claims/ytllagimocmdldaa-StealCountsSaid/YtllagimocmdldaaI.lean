/- The functions of the laws, told as the machine's; no conditions. -/
import Derived.Test.YtllagimocmdldaaProg
import Derived.Test.YtllagimocmdldaaM25
set_option maxRecDepth 100000
set_option linter.unusedVariables false
namespace Go.Proofs.YtllagimocmdldaaI
open Go Go.Proofs.YtllagimocmdldaaM
-- chatelaine/chatelainelaw04.DriftSums
def r6_0 : List IOper := [⟨some 6, .mov (.c (.bool false)), none⟩]
def r6_1 : List IOper := [⟨some 13, .callF 15 [], none⟩,
  ⟨some 14, .un .not (.t 13), none⟩]
def r6_2 : List IOper := [⟨some 6, .mov (.c (.bool false)), none⟩]
def r6_3 : List IOper := [⟨some 15, .mov (.t 0), none⟩,
  ⟨some 16, .mov (.t 1), none⟩,
  ⟨some 17, .callF 23 [(.t 15), (.t 16)], none⟩,
  ⟨some 7, .alloc [(.int .i64 0), (.int .i64 0)], none⟩,
  ⟨none, .store 2 (.t 7) (.t 17), none⟩]
def r6_4 : List IOper := [⟨some 8, .mov (.c (.int .i64 0)), none⟩,
  ⟨some 9, .mov (.c (.int .i64 0)), none⟩]
def r6_5 : List IOper := [⟨some 10, .mov (.c (.int .i64 0)), none⟩]
def r6_6 : List IOper := [⟨some 18, .mov (.t 10), none⟩,
  ⟨some 19, .mov (.t 2), none⟩,
  ⟨some 20, .lenL (.t 19), none⟩,
  ⟨some 21, .bin .lss (.t 18) (.t 20), none⟩,
  ⟨some 22, .mov (.t 21), none⟩,
  ⟨some 23, .mov (.t 10), some (22, true)⟩,
  ⟨some 24, .bin .lss (.t 23) (.c (.int .i64 30)), some (22, true)⟩,
  ⟨some 25, .pick (.t 22) (.t 24) (.c (.bool false)), none⟩]
def r6_7 : List IOper := [⟨some 28, .mov (.t 2), none⟩,
  ⟨some 29, .mov (.t 10), none⟩,
  ⟨some 30, .ixS 2 (.t 28) (.t 29), none⟩,
  ⟨some 31, .ixA 2 1 (.t 30) (.c (.int .i64 0)), none⟩,
  ⟨some 32, .load none (.t 31), none⟩,
  ⟨some 33, .mini [(.t 32), (.c (.int .i64 1073741824))], none⟩,
  ⟨some 34, .maxi [(.c (.int .i64 0)), (.t 33)], none⟩,
  ⟨some 35, .mov (.t 2), none⟩,
  ⟨some 36, .mov (.t 10), none⟩,
  ⟨some 37, .ixS 2 (.t 35) (.t 36), none⟩,
  ⟨some 38, .ixA 2 1 (.t 37) (.c (.int .i64 1)), none⟩,
  ⟨some 39, .load none (.t 38), none⟩,
  ⟨some 40, .mini [(.t 39), (.c (.int .i64 1073741824))], none⟩,
  ⟨some 41, .maxi [(.c (.int .i64 0)), (.t 40)], none⟩,
  ⟨some 11, .mov (.t 34), none⟩,
  ⟨some 12, .mov (.t 41), none⟩]
def r6_8 : List IOper := [⟨some 42, .load (some 2) (.t 7), none⟩,
  ⟨some 43, .mov (.t 11), none⟩,
  ⟨some 44, .mov (.t 12), none⟩,
  ⟨some 45, .callF 24 [(.t 42), (.t 43), (.t 44)], none⟩,
  ⟨some 46, .un .not (.t 45), none⟩]
def r6_9 : List IOper := [⟨some 47, .mov (.t 8), none⟩,
  ⟨some 48, .mov (.t 11), none⟩,
  ⟨some 49, .bin .add (.t 47) (.t 48), none⟩,
  ⟨some 50, .mov (.t 9), none⟩,
  ⟨some 51, .mov (.t 12), none⟩,
  ⟨some 52, .bin .add (.t 50) (.t 51), none⟩,
  ⟨some 8, .mov (.t 49), none⟩,
  ⟨some 9, .mov (.t 52), none⟩]
def r6_10 : List IOper := [⟨some 53, .load (some 2) (.t 7), none⟩,
  ⟨some 54, .mov (.t 8), none⟩,
  ⟨some 55, .mov (.t 9), none⟩,
  ⟨some 56, .callF 24 [(.t 53), (.t 54), (.t 55)], none⟩,
  ⟨some 57, .un .not (.t 56), none⟩,
  ⟨some 58, .mov (.t 57), none⟩,
  ⟨some 59, .load (some 2) (.t 7), some (58, false)⟩,
  ⟨some 60, .mov (.t 9), some (58, false)⟩,
  ⟨some 61, .mov (.t 8), some (58, false)⟩,
  ⟨some 62, .callF 24 [(.t 59), (.t 60), (.t 61)], some (58, false)⟩,
  ⟨some 63, .un .not (.t 62), some (58, false)⟩,
  ⟨some 64, .pick (.t 58) (.c (.bool true)) (.t 63), none⟩]
def r6_11 : List IOper := [⟨some 6, .mov (.c (.bool false)), none⟩]
def r6_12 : List IOper := [⟨some 26, .mov (.t 10), none⟩,
  ⟨some 27, .bin .add (.t 26) (.c (.int .i64 1)), none⟩,
  ⟨some 10, .mov (.t 27), none⟩]
def r6_13 : List IOper := [⟨some 6, .mov (.c (.bool true)), none⟩]
def b6 : ICode :=
 (.seq (.reg [(0, false)] r6_0)
 (.seq (.seq (.reg [(0, false), (1, false)] r6_1)
 (.cond (.t 14) (.seq (.reg [(0, false)] r6_2)
 .ret)
 .skip))
 (.seq (.reg [(0, false), (1, false), (2, false), (3, false), (4, false)] r6_3)
 (.seq (.reg [(0, false), (1, false)] r6_4)
 (.seq (.seq (.reg [(0, false)] r6_5)
 (.seq (.block 0 (.loop (.seq (.mask [2, 7, 8, 9, 10]) (.seq (.seq (.reg [(0, false), (1, false), (2, false), (3, false), (4, false), (5, false), (6, false), (7, false)] r6_6)
 (.cond (.t 25) .skip
 (.exit 0)))
 (.seq (.seq (.block 1 (.seq (.reg [(0, false), (1, false), (2, false), (3, false), (4, false), (5, false), (6, false), (7, false), (8, false), (9, false), (10, false), (11, false), (12, false), (13, false), (14, false), (15, false)] r6_7)
 (.seq (.seq (.reg [(0, false), (1, false), (2, false), (3, false), (4, false)] r6_8)
 (.cond (.t 46) (.exit 1)
 .skip))
 (.seq (.reg [(0, false), (1, false), (2, false), (3, false), (4, false), (5, false), (6, false), (7, false)] r6_9)
 (.seq (.reg [(0, false), (1, false), (2, false), (3, false), (4, false), (5, false), (6, false), (7, false), (8, false), (9, false), (10, false), (11, false)] r6_10)
 (.cond (.t 64) (.seq (.reg [(0, false)] r6_11)
 .ret)
 .skip)))))) (.mask [2, 7, 8, 9, 10]))
 (.reg [(0, false), (1, false), (2, false)] r6_12)))))) (.mask [])))
 (.seq (.reg [(0, false)] r6_13)
 .ret))))))
def f6 : IFunc := { nt := 65, res := [((.t 6), none)], body := b6 }
def ps6 : List Phases := [⟨[], [(0, false), (1, false), (2, false), (3, false), (4, false), (5, false), (6, false), (7, false), (8, false), (9, false), (10, false), (11, false), (12, false), (13, false), (14, false), (15, false)]⟩]
def ms6 : List (Option (List Nat)) := [none, some [2, 7, 8, 9, 10], none, none, none, some [2, 7, 8, 9, 10], some []]
-- chatelaine/chatelainelaw04.DriftRises
def r7_0 : List IOper := [⟨some 1, .box 5 (.t 0), none⟩,
  ⟨some 2, .mov (.c (.bool false)), none⟩]
def r7_1 : List IOper := [⟨some 6, .callF 15 [], none⟩,
  ⟨some 7, .un .not (.t 6), none⟩]
def r7_2 : List IOper := [⟨some 2, .mov (.c (.bool false)), none⟩]
def r7_3 : List IOper := [⟨some 8, .fld 0 (.t 1), none⟩,
  ⟨some 9, .load none (.t 8), none⟩,
  ⟨some 10, .fld 1 (.t 1), none⟩,
  ⟨some 11, .load none (.t 10), none⟩,
  ⟨some 12, .callF 23 [(.t 9), (.t 11)], none⟩,
  ⟨some 3, .alloc [(.int .i64 0), (.int .i64 0)], none⟩,
  ⟨none, .store 2 (.t 3) (.t 12), none⟩]
def r7_4 : List IOper := [⟨some 13, .fld 2 (.t 1), none⟩,
  ⟨some 14, .load none (.t 13), none⟩,
  ⟨some 15, .mini [(.t 14), (.c (.int .i64 274877906944))], none⟩,
  ⟨some 16, .maxi [(.c (.int .i64 0)), (.t 15)], none⟩,
  ⟨some 4, .mov (.t 16), none⟩]
def r7_5 : List IOper := [⟨some 17, .fld 3 (.t 1), none⟩,
  ⟨some 18, .load none (.t 17), none⟩,
  ⟨some 19, .mini [(.t 18), (.c (.int .i64 274877906944))], none⟩,
  ⟨some 20, .maxi [(.c (.int .i64 0)), (.t 19)], none⟩,
  ⟨some 5, .mov (.t 20), none⟩]
def r7_6 : List IOper := [⟨some 21, .load (some 2) (.t 3), none⟩,
  ⟨some 22, .mov (.t 4), none⟩,
  ⟨some 23, .callF 18 [(.t 21), (.t 22)], none⟩,
  ⟨some 24, .mov (.t 4), none⟩,
  ⟨some 25, .bin .geq (.t 23) (.t 24), none⟩,
  ⟨some 26, .mov (.t 25), none⟩,
  ⟨some 27, .load (some 2) (.t 3), some (26, true)⟩,
  ⟨some 28, .mov (.t 4), some (26, true)⟩,
  ⟨some 29, .callF 20 [(.t 27), (.t 28)], some (26, true)⟩,
  ⟨some 30, .mov (.t 4), some (26, true)⟩,
  ⟨some 31, .bin .leq (.t 29) (.t 30), some (26, true)⟩,
  ⟨some 32, .pick (.t 26) (.t 31) (.c (.bool false)), none⟩,
  ⟨some 33, .mov (.t 32), none⟩,
  ⟨some 34, .load (some 2) (.t 3), some (33, true)⟩,
  ⟨some 35, .load (some 2) (.t 3), some (33, true)⟩,
  ⟨some 36, .mov (.t 4), some (33, true)⟩,
  ⟨some 37, .callF 18 [(.t 35), (.t 36)], some (33, true)⟩,
  ⟨some 38, .callF 20 [(.t 34), (.t 37)], some (33, true)⟩,
  ⟨some 39, .mov (.t 4), some (33, true)⟩,
  ⟨some 40, .bin .geq (.t 38) (.t 39), some (33, true)⟩,
  ⟨some 41, .pick (.t 33) (.t 40) (.c (.bool false)), none⟩,
  ⟨some 42, .mov (.t 41), none⟩,
  ⟨some 43, .load (some 2) (.t 3), some (42, true)⟩,
  ⟨some 44, .load (some 2) (.t 3), some (42, true)⟩,
  ⟨some 45, .mov (.t 4), some (42, true)⟩,
  ⟨some 46, .callF 20 [(.t 44), (.t 45)], some (42, true)⟩,
  ⟨some 47, .callF 18 [(.t 43), (.t 46)], some (42, true)⟩,
  ⟨some 48, .mov (.t 4), some (42, true)⟩,
  ⟨some 49, .bin .leq (.t 47) (.t 48), some (42, true)⟩,
  ⟨some 50, .pick (.t 42) (.t 49) (.c (.bool false)), none⟩,
  ⟨some 51, .mov (.t 50), none⟩,
  ⟨some 52, .load (some 2) (.t 3), some (51, true)⟩,
  ⟨some 53, .mov (.t 4), some (51, true)⟩,
  ⟨some 54, .mov (.t 5), some (51, true)⟩,
  ⟨some 55, .bin .add (.t 53) (.t 54), some (51, true)⟩,
  ⟨some 56, .callF 18 [(.t 52), (.t 55)], some (51, true)⟩,
  ⟨some 57, .load (some 2) (.t 3), some (51, true)⟩,
  ⟨some 58, .mov (.t 4), some (51, true)⟩,
  ⟨some 59, .callF 18 [(.t 57), (.t 58)], some (51, true)⟩,
  ⟨some 60, .bin .geq (.t 56) (.t 59), some (51, true)⟩,
  ⟨some 61, .pick (.t 51) (.t 60) (.c (.bool false)), none⟩,
  ⟨some 62, .mov (.t 61), none⟩,
  ⟨some 63, .load (some 2) (.t 3), some (62, true)⟩,
  ⟨some 64, .mov (.t 4), some (62, true)⟩,
  ⟨some 65, .mov (.t 5), some (62, true)⟩,
  ⟨some 66, .bin .add (.t 64) (.t 65), some (62, true)⟩,
  ⟨some 67, .callF 20 [(.t 63), (.t 66)], some (62, true)⟩,
  ⟨some 68, .load (some 2) (.t 3), some (62, true)⟩,
  ⟨some 69, .mov (.t 4), some (62, true)⟩,
  ⟨some 70, .callF 20 [(.t 68), (.t 69)], some (62, true)⟩,
  ⟨some 71, .bin .geq (.t 67) (.t 70), some (62, true)⟩,
  ⟨some 72, .pick (.t 62) (.t 71) (.c (.bool false)), none⟩,
  ⟨some 73, .mov (.t 72), none⟩,
  ⟨some 74, .load (some 2) (.t 3), some (73, true)⟩,
  ⟨some 75, .mov (.t 4), some (73, true)⟩,
  ⟨some 76, .mov (.t 4), some (73, true)⟩,
  ⟨some 77, .callF 24 [(.t 74), (.t 75), (.t 76)], some (73, true)⟩,
  ⟨some 78, .pick (.t 73) (.t 77) (.c (.bool false)), none⟩,
  ⟨some 79, .mov (.t 78), none⟩,
  ⟨some 80, .mov (.t 4), some (79, true)⟩,
  ⟨some 81, .bin .eql (.t 80) (.c (.int .i64 0)), some (79, true)⟩,
  ⟨some 82, .mov (.t 81), some (79, true)⟩,
  ⟨some 83, .load (some 2) (.t 3), some (82, false)⟩,
  ⟨some 84, .mov (.t 4), some (82, false)⟩,
  ⟨some 85, .callF 18 [(.t 83), (.t 84)], some (82, false)⟩,
  ⟨some 86, .bin .sub (.t 85) (.c (.int .i64 1)), some (82, false)⟩,
  ⟨some 87, .fld 1 (.t 3), some (82, false)⟩,
  ⟨some 88, .load none (.t 87), some (82, false)⟩,
  ⟨some 89, .bin .mul (.t 86) (.t 88), some (82, false)⟩,
  ⟨some 90, .mov (.t 4), some (82, false)⟩,
  ⟨some 91, .fld 0 (.t 3), some (82, false)⟩,
  ⟨some 92, .load none (.t 91), some (82, false)⟩,
  ⟨some 93, .bin .mul (.t 90) (.t 92), some (82, false)⟩,
  ⟨some 94, .bin .lss (.t 89) (.t 93), some (82, false)⟩,
  ⟨some 95, .pick (.t 82) (.c (.bool true)) (.t 94), some (79, true)⟩,
  ⟨some 96, .pick (.t 79) (.t 95) (.c (.bool false)), none⟩,
  ⟨some 2, .mov (.t 96), none⟩]
def b7 : ICode :=
 (.seq (.reg [(0, false), (1, false)] r7_0)
 (.seq (.seq (.reg [(0, false), (1, false)] r7_1)
 (.cond (.t 7) (.seq (.reg [(0, false)] r7_2)
 .ret)
 .skip))
 (.seq (.reg [(0, false), (1, false), (2, false), (3, false), (4, false), (5, false), (6, false)] r7_3)
 (.seq (.reg [(0, false), (1, false), (2, false), (3, false), (4, false)] r7_4)
 (.seq (.reg [(0, false), (1, false), (2, false), (3, false), (4, false)] r7_5)
 (.seq (.reg [(0, false), (1, false), (3, false), (2, false), (4, false), (5, false), (6, false), (7, false), (9, false), (8, false), (10, false), (11, false), (12, false), (13, false), (14, false), (15, false), (18, false), (16, false), (13, true), (17, false), (19, false), (20, false), (21, false), (22, false), (23, false), (24, false), (27, false), (25, false), (22, true), (26, false), (28, false), (29, false), (30, false), (31, false), (32, false), (33, false), (34, false), (36, false), (37, false), (35, false), (36, true), (38, false), (39, false), (40, false), (41, false), (42, false), (43, false), (44, false), (45, false), (47, false), (48, false), (46, false), (47, true), (49, false), (50, false), (51, false), (52, false), (53, false), (54, false), (55, false), (56, false), (57, false), (58, false), (59, false), (60, false), (61, false), (62, false), (63, false), (66, false), (67, false), (69, false), (70, false), (71, false), (72, false), (64, false), (67, true), (71, true), (65, false), (68, false), (73, false), (74, false), (75, false), (76, false)] r7_6)
 .ret))))))
def f7 : IFunc := { nt := 97, res := [((.t 2), none)], body := b7 }
def ps7 : List Phases := [⟨[([(0, false), (1, false), (3, false)], 2), ([(4, false), (5, false), (6, false), (7, false), (9, false)], 8), ([(10, false), (11, false), (12, false), (13, false), (14, false), (15, false), (18, false)], 16), ([(13, true)], 17), ([(19, false), (20, false), (21, false), (22, false), (23, false), (24, false), (27, false)], 25), ([(22, true)], 26), ([(28, false), (29, false), (30, false), (31, false), (32, false), (33, false), (34, false), (36, false), (37, false)], 35), ([(36, true)], 38), ([(39, false), (40, false), (41, false), (42, false), (43, false), (44, false), (45, false), (47, false), (48, false)], 46), ([(47, true)], 49), ([(50, false), (51, false), (52, false), (53, false), (54, false), (55, false)], 56), ([(57, false), (58, false), (59, false), (60, false), (61, false), (62, false), (63, false), (66, false), (67, false), (69, false), (70, false), (71, false), (72, false)], 64)], [(67, true), (71, true), (65, false), (68, false), (73, false), (74, false), (75, false), (76, false)]⟩]
def ms7 : List (Option (List Nat)) := [none]
-- chatelaine/chatelainelaw21.StealChecks
def r8_0 : List IOper := [⟨some 4, .mov (.c (.bool false)), none⟩]
def r8_1 : List IOper := [⟨some 7, .callF 25 [], none⟩,
  ⟨some 8, .un .not (.t 7), none⟩]
def r8_2 : List IOper := [⟨some 4, .mov (.c (.bool false)), none⟩]
def r8_3 : List IOper := [⟨some 9, .mov (.t 0), none⟩,
  ⟨some 10, .mov (.t 1), none⟩,
  ⟨some 11, .build [(.int .i64 0), (.int .i64 0)] [(0, 1, (.t 9)), (1, 1, (.t 10))], none⟩,
  ⟨some 5, .alloc [(.int .i64 0), (.int .i64 0)], none⟩,
  ⟨none, .store 2 (.t 5) (.t 11), none⟩]
def r8_4 : List IOper := [⟨some 12, .mov (.t 0), none⟩,
  ⟨some 13, .bin .geq (.t 12) (.c (.int .i64 1)), none⟩,
  ⟨some 14, .mov (.t 13), none⟩,
  ⟨some 15, .mov (.t 0), some (14, true)⟩,
  ⟨some 16, .bin .leq (.t 15) (.c (.int .i64 64)), some (14, true)⟩,
  ⟨some 17, .pick (.t 14) (.t 16) (.c (.bool false)), none⟩,
  ⟨some 18, .mov (.t 17), none⟩,
  ⟨some 19, .mov (.t 1), some (18, true)⟩,
  ⟨some 20, .bin .geq (.t 19) (.c (.int .i64 1)), some (18, true)⟩,
  ⟨some 21, .pick (.t 18) (.t 20) (.c (.bool false)), none⟩,
  ⟨some 22, .mov (.t 21), none⟩,
  ⟨some 23, .mov (.t 1), some (22, true)⟩,
  ⟨some 24, .bin .leq (.t 23) (.c (.int .i64 65536)), some (22, true)⟩,
  ⟨some 25, .pick (.t 22) (.t 24) (.c (.bool false)), none⟩,
  ⟨some 6, .mov (.t 25), none⟩]
def r8_5 : List IOper := [⟨some 26, .load (some 2) (.t 5), none⟩,
  ⟨some 27, .callF 26 [(.t 26)], none⟩,
  ⟨some 28, .bin .eql (.t 27) (.c (.int .i64 0)), none⟩,
  ⟨some 29, .mov (.t 6), none⟩,
  ⟨some 30, .eqn 0 false (.t 28) (.t 29), none⟩,
  ⟨some 31, .mov (.t 30), none⟩,
  ⟨some 32, .mov (.t 6), some (31, true)⟩,
  ⟨some 33, .mov (.t 32), some (31, true)⟩,
  ⟨some 34, .load (some 2) (.t 5), some (33, false)⟩,
  ⟨some 35, .callF 26 [(.t 34)], some (33, false)⟩,
  ⟨some 36, .bin .eql (.t 35) (.c (.int .i64 12)), some (33, false)⟩,
  ⟨some 37, .pick (.t 33) (.c (.bool true)) (.t 36), some (31, true)⟩,
  ⟨some 38, .pick (.t 31) (.t 37) (.c (.bool false)), none⟩,
  ⟨some 4, .mov (.t 38), none⟩]
def b8 : ICode :=
 (.seq (.reg [(0, false)] r8_0)
 (.seq (.seq (.reg [(0, false), (1, false)] r8_1)
 (.cond (.t 8) (.seq (.reg [(0, false)] r8_2)
 .ret)
 .skip))
 (.seq (.reg [(0, false), (1, false), (2, false), (3, false), (4, false)] r8_3)
 (.seq (.reg [(0, false), (1, false), (2, false), (3, false), (4, false), (5, false), (6, false), (7, false), (8, false), (9, false), (10, false), (11, false), (12, false), (13, false), (14, false)] r8_4)
 (.seq (.reg [(0, false), (1, false), (2, false), (3, false), (4, false), (5, false), (6, false), (7, false), (8, false), (9, false), (10, false), (11, false), (12, false), (13, false)] r8_5)
 .ret)))))
def f8 : IFunc := { nt := 39, res := [((.t 4), none)], body := b8 }
def ps8 : List Phases := []
def ms8 : List (Option (List Nat)) := [none]
-- chatelaine/chatelainelaw21.StealCounts
def r9_0 : List IOper := [⟨some 3, .box 2 (.t 0), none⟩,
  ⟨some 6, .mov (.c (.bool false)), none⟩]
def r9_1 : List IOper := [⟨some 19, .callF 25 [], none⟩,
  ⟨some 20, .un .not (.t 19), none⟩]
def r9_2 : List IOper := [⟨some 6, .mov (.c (.bool false)), none⟩]
def r9_3 : List IOper := [⟨some 21, .ixA 2 1 (.t 3) (.c (.int .i64 0)), none⟩,
  ⟨some 22, .load none (.t 21), none⟩,
  ⟨some 23, .ixA 2 1 (.t 3) (.c (.int .i64 1)), none⟩,
  ⟨some 24, .load none (.t 23), none⟩,
  ⟨some 25, .callF 27 [(.t 22), (.t 24)], none⟩,
  ⟨some 7, .alloc [(.int .i64 0), (.int .i64 0)], none⟩,
  ⟨none, .store 2 (.t 7) (.t 25), none⟩]
def r9_4 : List IOper := [⟨some 26, .load (some 2) (.t 7), none⟩,
  ⟨some 27, .mov (.t 1), none⟩,
  ⟨some 28, .callF 28 [(.t 26), (.t 27)], none⟩,
  ⟨some 8, .mov (.t 28), none⟩]
def r9_5 : List IOper := [⟨some 29, .mov (.t 8), none⟩,
  ⟨some 30, .eqn 1 false (.t 29) (.c .nilp), none⟩,
  ⟨some 31, .mov (.t 30), none⟩,
  ⟨some 32, .load (some 2) (.t 7), some (31, false)⟩,
  ⟨some 33, .callF 26 [(.t 32)], some (31, false)⟩,
  ⟨some 34, .bin .neq (.t 33) (.c (.int .i64 0)), some (31, false)⟩,
  ⟨some 35, .pick (.t 31) (.c (.bool true)) (.t 34), none⟩]
def r9_6 : List IOper := [⟨some 6, .mov (.c (.bool false)), none⟩]
def r9_7 : List IOper := [⟨some 36, .mov (.t 1), none⟩,
  ⟨some 37, .mini [(.t 36), (.c (.int .i64 4))], none⟩,
  ⟨some 38, .maxi [(.c (.int .i64 0)), (.t 37)], none⟩,
  ⟨some 1, .mov (.t 38), none⟩]
def r9_8 : List IOper := [⟨some 9, .mov (.c .nils), none⟩]
def r9_9 : List IOper := [⟨some 10, .mov (.c (.int .i64 0)), none⟩]
def r9_10 : List IOper := [⟨some 39, .mov (.t 10), none⟩,
  ⟨some 40, .mov (.t 2), none⟩,
  ⟨some 41, .lenL (.t 40), none⟩,
  ⟨some 42, .bin .lss (.t 39) (.t 41), none⟩,
  ⟨some 43, .mov (.t 42), none⟩,
  ⟨some 44, .mov (.t 10), some (43, true)⟩,
  ⟨some 45, .bin .lss (.t 44) (.c (.int .i64 150)), some (43, true)⟩,
  ⟨some 46, .pick (.t 43) (.t 45) (.c (.bool false)), none⟩]
def r9_11 : List IOper := [⟨some 49, .mov (.t 2), none⟩,
  ⟨some 50, .mov (.t 10), none⟩,
  ⟨some 51, .ixS 3 (.t 49) (.t 50), none⟩,
  ⟨some 52, .load (some 3) (.t 51), none⟩,
  ⟨some 11, .alloc [(.int .i64 0), (.int .i64 0), (.int .i64 0)], none⟩,
  ⟨none, .store 3 (.t 11) (.t 52), none⟩]
def r9_12 : List IOper := [⟨some 53, .fld 2 (.t 11), none⟩,
  ⟨some 54, .load none (.t 53), none⟩,
  ⟨some 55, .mini [(.t 54), (.c (.int .i64 1073741824))], none⟩,
  ⟨some 56, .maxi [(.c (.int .i64 0)), (.t 55)], none⟩,
  ⟨some 57, .fld 2 (.t 11), none⟩,
  ⟨none, .store 1 (.t 57) (.t 56), none⟩]
def r9_13 : List IOper := [⟨some 58, .fld 0 (.t 11), none⟩,
  ⟨some 59, .load none (.t 58), none⟩,
  ⟨some 60, .bin .eql (.t 59) (.c (.int .i64 1)), none⟩]
def r9_14 : List IOper := [⟨some 61, .mov (.t 8), none⟩,
  ⟨some 62, .callF 29 [(.t 61)], none⟩]
def r9_15 : List IOper := [⟨some 9, .mov (.c .nils), none⟩]
def r9_16 : List IOper := [⟨some 63, .fld 1 (.t 11), none⟩,
  ⟨some 64, .load none (.t 63), none⟩,
  ⟨some 65, .bin .geq (.t 64) (.c (.int .i64 0)), none⟩,
  ⟨some 66, .mov (.t 65), none⟩,
  ⟨some 67, .fld 1 (.t 11), some (66, true)⟩,
  ⟨some 68, .load none (.t 67), some (66, true)⟩,
  ⟨some 69, .mov (.t 1), some (66, true)⟩,
  ⟨some 70, .bin .lss (.t 68) (.t 69), some (66, true)⟩,
  ⟨some 71, .pick (.t 66) (.t 70) (.c (.bool false)), none⟩,
  ⟨some 12, .mov (.t 71), none⟩]
def r9_17 : List IOper := [⟨some 72, .mov (.t 8), none⟩,
  ⟨some 73, .fld 1 (.t 11), none⟩,
  ⟨some 74, .load none (.t 73), none⟩,
  ⟨some 75, .fld 2 (.t 11), none⟩,
  ⟨some 76, .load none (.t 75), none⟩,
  ⟨some 77, .callF 30 [(.t 72), (.t 74), (.t 76)], none⟩,
  ⟨some 78, .mov (.t 12), none⟩,
  ⟨some 79, .eqn 0 true (.t 77) (.t 78), none⟩]
def r9_18 : List IOper := [⟨some 6, .mov (.c (.bool false)), none⟩]
def r9_19 : List IOper := [⟨some 80, .mov (.t 12), none⟩]
def r9_20 : List IOper := [⟨some 81, .mov (.t 9), none⟩,
  ⟨some 82, .load (some 3) (.t 11), none⟩,
  ⟨some 83, .buildS 3 1 [(.int .i64 0), (.int .i64 0), (.int .i64 0)] [(0, (.t 82))], none⟩,
  ⟨some 84, .app 3 24 (.t 81) (.t 83), none⟩,
  ⟨some 9, .mov (.t 84), none⟩]
def r9_21 : List IOper := [⟨some 13, .mov (.c (.int .i64 (-1))), none⟩,
  ⟨some 14, .mov (.c (.int .i64 0)), none⟩]
def r9_22 : List IOper := [⟨some 85, .mov (.c (.int .i64 0)), none⟩]
def r9_23 : List IOper := [⟨some 86, .bin .lss (.t 85) (.c (.int .i64 4)), none⟩]
def r9_24 : List IOper := [⟨some 87, .mov (.t 85), none⟩,
  ⟨some 15, .mov (.t 87), none⟩]
def r9_25 : List IOper := [⟨some 88, .mov (.t 9), none⟩,
  ⟨some 89, .mov (.t 15), none⟩,
  ⟨some 90, .fld 2 (.t 11), none⟩,
  ⟨some 91, .load none (.t 90), none⟩,
  ⟨some 92, .fld 1 (.t 7), none⟩,
  ⟨some 93, .load none (.t 92), none⟩,
  ⟨some 94, .callF 31 [(.t 88), (.t 89), (.t 91), (.t 93)], none⟩,
  ⟨some 16, .mov (.t 94), none⟩]
def r9_26 : List IOper := [⟨some 95, .mov (.t 8), none⟩,
  ⟨some 96, .mov (.t 15), none⟩,
  ⟨some 97, .fld 2 (.t 11), none⟩,
  ⟨some 98, .load none (.t 97), none⟩,
  ⟨some 99, .callF 32 [(.t 95), (.t 96), (.t 98)], none⟩,
  ⟨some 100, .mov (.t 16), none⟩,
  ⟨some 101, .bin .neq (.t 99) (.t 100), none⟩,
  ⟨some 102, .mov (.t 101), none⟩,
  ⟨some 103, .mov (.t 8), some (102, false)⟩,
  ⟨some 104, .mov (.t 15), some (102, false)⟩,
  ⟨some 105, .fld 2 (.t 11), some (102, false)⟩,
  ⟨some 106, .load none (.t 105), some (102, false)⟩,
  ⟨some 107, .callF 33 [(.t 103), (.t 104), (.t 106)], some (102, false)⟩,
  ⟨some 108, .mov (.t 15), some (102, false)⟩,
  ⟨some 109, .mov (.t 1), some (102, false)⟩,
  ⟨some 110, .bin .lss (.t 108) (.t 109), some (102, false)⟩,
  ⟨some 111, .mov (.t 110), some (102, false)⟩,
  ⟨some 112, .mov (.t 16), some (111, true)⟩,
  ⟨some 113, .fld 0 (.t 7), some (111, true)⟩,
  ⟨some 114, .load none (.t 113), some (111, true)⟩,
  ⟨some 115, .bin .geq (.t 112) (.t 114), some (111, true)⟩,
  ⟨some 116, .pick (.t 111) (.t 115) (.c (.bool false)), some (102, false)⟩,
  ⟨some 117, .eqn 0 true (.t 107) (.t 116), some (102, false)⟩,
  ⟨some 118, .pick (.t 102) (.c (.bool true)) (.t 117), none⟩]
def r9_27 : List IOper := [⟨some 6, .mov (.c (.bool false)), none⟩]
def r9_28 : List IOper := [⟨some 119, .mov (.t 16), none⟩,
  ⟨some 120, .mov (.t 14), none⟩,
  ⟨some 121, .bin .gtr (.t 119) (.t 120), none⟩]
def r9_29 : List IOper := [⟨some 122, .mov (.t 15), none⟩,
  ⟨some 123, .mov (.t 16), none⟩,
  ⟨some 13, .mov (.t 122), none⟩,
  ⟨some 14, .mov (.t 123), none⟩]
def r9_30 : List IOper := [⟨some 124, .bin .add (.t 85) (.c (.int .i64 1)), none⟩,
  ⟨some 85, .mov (.t 124), none⟩]
def r9_31 : List IOper := [⟨some 126, .mov (.t 8), none⟩,
  ⟨some 127, .fld 2 (.t 11), none⟩,
  ⟨some 128, .load none (.t 127), none⟩,
  ⟨some 129, .callF 34 [(.t 126), (.t 128)], none⟩,
  ⟨some 125, .mov (.t 129), none⟩,
  ⟨some 130, .ext (.t 125) 0, none⟩,
  ⟨some 131, .ext (.t 125) 1, none⟩,
  ⟨some 17, .mov (.t 130), none⟩,
  ⟨some 18, .mov (.t 131), none⟩]
def r9_32 : List IOper := [⟨some 132, .mov (.t 17), none⟩,
  ⟨some 133, .mov (.t 13), none⟩,
  ⟨some 134, .bin .neq (.t 132) (.t 133), none⟩,
  ⟨some 135, .mov (.t 134), none⟩,
  ⟨some 136, .mov (.t 18), some (135, false)⟩,
  ⟨some 137, .mov (.t 14), some (135, false)⟩,
  ⟨some 138, .bin .neq (.t 136) (.t 137), some (135, false)⟩,
  ⟨some 139, .pick (.t 135) (.c (.bool true)) (.t 138), none⟩,
  ⟨some 140, .mov (.t 139), none⟩,
  ⟨some 141, .mov (.t 8), some (140, false)⟩,
  ⟨some 142, .fld 2 (.t 11), some (140, false)⟩,
  ⟨some 143, .load none (.t 142), some (140, false)⟩,
  ⟨some 144, .callF 32 [(.t 141), (.c (.int .i64 (-1))), (.t 143)], some (140, false)⟩,
  ⟨some 145, .bin .neq (.t 144) (.c (.int .i64 0)), some (140, false)⟩,
  ⟨some 146, .pick (.t 140) (.c (.bool true)) (.t 145), none⟩,
  ⟨some 147, .mov (.t 146), none⟩,
  ⟨some 148, .mov (.t 8), some (147, false)⟩,
  ⟨some 149, .mov (.t 1), some (147, false)⟩,
  ⟨some 150, .fld 2 (.t 11), some (147, false)⟩,
  ⟨some 151, .load none (.t 150), some (147, false)⟩,
  ⟨some 152, .callF 33 [(.t 148), (.t 149), (.t 151)], some (147, false)⟩,
  ⟨some 153, .pick (.t 147) (.c (.bool true)) (.t 152), none⟩]
def r9_33 : List IOper := [⟨some 6, .mov (.c (.bool false)), none⟩]
def r9_34 : List IOper := [⟨some 47, .mov (.t 10), none⟩,
  ⟨some 48, .bin .add (.t 47) (.c (.int .i64 1)), none⟩,
  ⟨some 10, .mov (.t 48), none⟩]
def r9_35 : List IOper := [⟨some 6, .mov (.c (.bool true)), none⟩]
def b9 : ICode :=
 (.seq (.reg [(0, false), (1, false)] r9_0)
 (.seq (.seq (.reg [(0, false), (1, false)] r9_1)
 (.cond (.t 20) (.seq (.reg [(0, false)] r9_2)
 .ret)
 .skip))
 (.seq (.reg [(0, false), (1, false), (2, false), (3, false), (4, false), (5, false), (6, false)] r9_3)
 (.seq (.reg [(0, false), (1, false), (2, false), (3, false)] r9_4)
 (.seq (.seq (.reg [(0, false), (1, false), (2, false), (3, false), (4, false), (5, false), (6, false)] r9_5)
 (.cond (.t 35) (.seq (.reg [(0, false)] r9_6)
 .ret)
 .skip))
 (.seq (.reg [(0, false), (1, false), (2, false), (3, false)] r9_7)
 (.seq (.reg [(0, false)] r9_8)
 (.seq (.seq (.reg [(0, false)] r9_9)
 (.seq (.block 0 (.loop (.seq (.mask [1, 2, 7, 8, 9, 10]) (.seq (.seq (.reg [(0, false), (1, false), (2, false), (3, false), (4, false), (5, false), (6, false), (7, false)] r9_10)
 (.cond (.t 46) .skip
 (.exit 0)))
 (.seq (.seq (.block 1 (.seq (.reg [(0, false), (1, false), (2, false), (3, false), (4, false), (5, false)] r9_11)
 (.seq (.reg [(0, false), (1, false), (2, false), (3, false), (4, false), (5, false)] r9_12)
 (.seq (.seq (.reg [(0, false), (1, false), (2, false)] r9_13)
 (.seq (.cond (.t 60) (.seq (.reg [(0, false), (1, false)] r9_14)
 (.reg [(0, false)] r9_15))
 .skip) (.mask [1, 2, 7, 8, 9, 10, 11])))
 (.seq (.reg [(0, false), (1, false), (2, false), (3, false), (4, false), (5, false), (6, false), (7, false), (8, false), (9, false)] r9_16)
 (.seq (.seq (.reg [(0, false), (1, false), (2, false), (3, false), (4, false), (5, false), (6, false), (7, false)] r9_17)
 (.cond (.t 79) (.seq (.reg [(0, false)] r9_18)
 .ret)
 .skip))
 (.seq (.seq (.reg [(0, false)] r9_19)
 (.seq (.cond (.t 80) (.reg [(0, false), (1, false), (2, false), (3, false), (4, false)] r9_20)
 .skip) (.mask [1, 2, 7, 8, 9, 10, 11])))
 (.seq (.reg [(0, false), (1, false)] r9_21)
 (.seq (.seq (.reg [(0, false)] r9_22)
 (.seq (.block 2 (.loop (.seq (.mask [1, 2, 7, 8, 9, 10, 11, 13, 14, 85]) (.seq (.reg [(0, false)] r9_23)
 (.seq (.cond (.t 86) .skip
 (.exit 2))
 (.seq (.seq (.block 3 (.seq (.reg [(0, false), (1, false)] r9_24)
 (.seq (.reg [(0, false), (1, false), (2, false), (3, false), (4, false), (5, false), (6, false), (7, false)] r9_25)
 (.seq (.seq (.reg [(0, false), (1, false), (2, false), (3, false), (4, false), (5, false), (6, false), (7, false), (8, false), (9, false), (10, false), (11, false), (12, false), (13, false), (14, false), (15, false), (16, false), (17, false), (18, false), (19, false), (20, false), (21, false), (22, false), (23, false)] r9_26)
 (.cond (.t 118) (.seq (.reg [(0, false)] r9_27)
 .ret)
 .skip))
 (.seq (.reg [(0, false), (1, false), (2, false)] r9_28)
 (.seq (.cond (.t 121) (.reg [(0, false), (1, false), (2, false), (3, false)] r9_29)
 .skip) (.mask [1, 2, 7, 8, 9, 10, 11, 13, 14, 85]))))))) (.mask [1, 2, 7, 8, 9, 10, 11, 13, 14, 85]))
 (.reg [(0, false), (1, false)] r9_30))))))) (.mask [1, 2, 7, 8, 9, 10, 11, 13, 14])))
 (.seq (.reg [(0, false), (1, false), (2, false), (3, false), (4, false), (5, false), (6, false), (7, false), (8, false)] r9_31)
 (.seq (.reg [(0, false), (1, false), (2, false), (3, false), (4, false), (5, false), (6, false), (7, false), (8, false), (9, false), (10, false), (11, false), (12, false), (13, false), (14, false), (15, false), (16, false), (17, false), (18, false), (19, false), (20, false), (21, false)] r9_32)
 (.cond (.t 153) (.seq (.reg [(0, false)] r9_33)
 .ret)
 .skip)))))))))))) (.mask [1, 2, 7, 8, 9, 10]))
 (.reg [(0, false), (1, false), (2, false)] r9_34)))))) (.mask [])))
 (.seq (.reg [(0, false)] r9_35)
 .ret)))))))))
def f9 : IFunc := { nt := 154, res := [((.t 6), none)], body := b9 }
def ps9 : List Phases := []
def ms9 : List (Option (List Nat)) := [none, none, some [1, 2, 7, 8, 9, 10], none, some [1, 2, 7, 8, 9, 10, 11], none, some [1, 2, 7, 8, 9, 10, 11], some [1, 2, 7, 8, 9, 10, 11, 13, 14, 85], none, none, some [1, 2, 7, 8, 9, 10, 11, 13, 14, 85], some [1, 2, 7, 8, 9, 10, 11, 13, 14, 85], some [1, 2, 7, 8, 9, 10, 11, 13, 14], none, some [1, 2, 7, 8, 9, 10], some []]
-- chatelaine/chatelainelaw21.StealGives
def r10_0 : List IOper := [⟨some 3, .box 2 (.t 0), none⟩,
  ⟨some 6, .mov (.c (.bool false)), none⟩]
def r10_1 : List IOper := [⟨some 17, .callF 25 [], none⟩,
  ⟨some 18, .un .not (.t 17), none⟩]
def r10_2 : List IOper := [⟨some 6, .mov (.c (.bool false)), none⟩]
def r10_3 : List IOper := [⟨some 19, .ixA 2 1 (.t 3) (.c (.int .i64 0)), none⟩,
  ⟨some 20, .load none (.t 19), none⟩,
  ⟨some 21, .ixA 2 1 (.t 3) (.c (.int .i64 1)), none⟩,
  ⟨some 22, .load none (.t 21), none⟩,
  ⟨some 23, .callF 27 [(.t 20), (.t 22)], none⟩,
  ⟨some 24, .callF 28 [(.t 23), (.c (.int .i64 4))], none⟩,
  ⟨some 7, .mov (.t 24), none⟩]
def r10_4 : List IOper := [⟨some 25, .mov (.t 7), none⟩,
  ⟨some 26, .eqn 1 false (.t 25) (.c .nilp), none⟩]
def r10_5 : List IOper := [⟨some 6, .mov (.c (.bool false)), none⟩]
def r10_6 : List IOper := [⟨some 27, .mov (.t 2), none⟩,
  ⟨some 28, .mini [(.t 27), (.c (.int .i64 1073741824))], none⟩,
  ⟨some 29, .maxi [(.c (.int .i64 0)), (.t 28)], none⟩,
  ⟨some 2, .mov (.t 29), none⟩]
def r10_7 : List IOper := [⟨some 8, .mov (.c (.int .i64 0)), none⟩]
def r10_8 : List IOper := [⟨some 30, .mov (.t 8), none⟩,
  ⟨some 31, .mov (.t 1), none⟩,
  ⟨some 32, .lenL (.t 31), none⟩,
  ⟨some 33, .bin .lss (.t 30) (.t 32), none⟩,
  ⟨some 34, .mov (.t 33), none⟩,
  ⟨some 35, .mov (.t 8), some (34, true)⟩,
  ⟨some 36, .bin .lss (.t 35) (.c (.int .i64 150)), some (34, true)⟩,
  ⟨some 37, .pick (.t 34) (.t 36) (.c (.bool false)), none⟩]
def r10_9 : List IOper := [⟨some 40, .mov (.t 7), none⟩,
  ⟨some 41, .mov (.t 1), none⟩,
  ⟨some 42, .mov (.t 8), none⟩,
  ⟨some 43, .ixS 3 (.t 41) (.t 42), none⟩,
  ⟨some 44, .fld 1 (.t 43), none⟩,
  ⟨some 45, .load none (.t 44), none⟩,
  ⟨some 46, .mov (.t 1), none⟩,
  ⟨some 47, .mov (.t 8), none⟩,
  ⟨some 48, .ixS 3 (.t 46) (.t 47), none⟩,
  ⟨some 49, .fld 2 (.t 48), none⟩,
  ⟨some 50, .load none (.t 49), none⟩,
  ⟨some 51, .mini [(.t 50), (.c (.int .i64 1073741824))], none⟩,
  ⟨some 52, .maxi [(.c (.int .i64 0)), (.t 51)], none⟩,
  ⟨some 53, .callF 30 [(.t 40), (.t 45), (.t 52)], none⟩]
def r10_10 : List IOper := [⟨some 38, .mov (.t 8), none⟩,
  ⟨some 39, .bin .add (.t 38) (.c (.int .i64 1)), none⟩,
  ⟨some 8, .mov (.t 39), none⟩]
def r10_11 : List IOper := [⟨some 55, .mov (.t 7), none⟩,
  ⟨some 56, .mov (.t 2), none⟩,
  ⟨some 57, .callF 34 [(.t 55), (.t 56)], none⟩,
  ⟨some 54, .mov (.t 57), none⟩,
  ⟨some 58, .ext (.t 54) 0, none⟩,
  ⟨some 59, .ext (.t 54) 1, none⟩,
  ⟨some 9, .mov (.t 58), none⟩,
  ⟨some 10, .mov (.t 59), none⟩]
def r10_12 : List IOper := [⟨some 60, .mov (.c (.int .i64 0)), none⟩]
def r10_13 : List IOper := [⟨some 61, .bin .lss (.t 60) (.c (.int .i64 4)), none⟩]
def r10_14 : List IOper := [⟨some 62, .mov (.t 60), none⟩,
  ⟨some 11, .mov (.t 62), none⟩]
def r10_15 : List IOper := [⟨some 64, .mov (.t 7), none⟩,
  ⟨some 65, .mov (.t 11), none⟩,
  ⟨some 66, .mov (.t 2), none⟩,
  ⟨some 67, .callF 35 [(.t 64), (.t 65), (.t 66)], none⟩,
  ⟨some 63, .mov (.t 67), none⟩,
  ⟨some 68, .ext (.t 63) 0, none⟩,
  ⟨some 69, .ext (.t 63) 1, none⟩,
  ⟨some 12, .mov (.t 68), none⟩,
  ⟨some 13, .mov (.t 69), none⟩]
def r10_16 : List IOper := [⟨some 70, .mov (.t 9), none⟩,
  ⟨some 71, .bin .geq (.t 70) (.c (.int .i64 0)), none⟩,
  ⟨some 72, .mov (.t 71), none⟩,
  ⟨some 73, .mov (.t 9), some (72, true)⟩,
  ⟨some 74, .mov (.t 11), some (72, true)⟩,
  ⟨some 75, .bin .neq (.t 73) (.t 74), some (72, true)⟩,
  ⟨some 76, .pick (.t 72) (.t 75) (.c (.bool false)), none⟩,
  ⟨some 77, .mov (.t 76), none⟩,
  ⟨some 78, .mov (.t 7), some (77, true)⟩,
  ⟨some 79, .mov (.t 9), some (77, true)⟩,
  ⟨some 80, .mov (.t 2), some (77, true)⟩,
  ⟨some 81, .callF 33 [(.t 78), (.t 79), (.t 80)], some (77, true)⟩,
  ⟨some 82, .pick (.t 77) (.t 81) (.c (.bool false)), none⟩,
  ⟨some 83, .mov (.t 82), none⟩,
  ⟨some 84, .mov (.t 10), some (83, true)⟩,
  ⟨some 85, .mov (.t 7), some (83, true)⟩,
  ⟨some 86, .mov (.t 11), some (83, true)⟩,
  ⟨some 87, .mov (.t 2), some (83, true)⟩,
  ⟨some 88, .callF 32 [(.t 85), (.t 86), (.t 87)], some (83, true)⟩,
  ⟨some 89, .bin .gtr (.t 84) (.t 88), some (83, true)⟩,
  ⟨some 90, .pick (.t 83) (.t 89) (.c (.bool false)), none⟩,
  ⟨some 14, .mov (.t 90), none⟩]
def r10_17 : List IOper := [⟨some 91, .mov (.t 13), none⟩,
  ⟨some 92, .mov (.t 14), none⟩,
  ⟨some 93, .eqn 0 true (.t 91) (.t 92), none⟩,
  ⟨some 94, .mov (.t 93), none⟩,
  ⟨some 95, .mov (.t 13), some (94, false)⟩,
  ⟨some 96, .mov (.t 95), some (94, false)⟩,
  ⟨some 97, .mov (.t 12), some (96, true)⟩,
  ⟨some 98, .mov (.t 9), some (96, true)⟩,
  ⟨some 99, .bin .neq (.t 97) (.t 98), some (96, true)⟩,
  ⟨some 100, .pick (.t 96) (.t 99) (.c (.bool false)), some (94, false)⟩,
  ⟨some 101, .pick (.t 94) (.c (.bool true)) (.t 100), none⟩,
  ⟨some 102, .mov (.t 101), none⟩,
  ⟨some 103, .mov (.t 13), some (102, false)⟩,
  ⟨some 104, .un .not (.t 103), some (102, false)⟩,
  ⟨some 105, .mov (.t 104), some (102, false)⟩,
  ⟨some 106, .mov (.t 12), some (105, true)⟩,
  ⟨some 107, .bin .neq (.t 106) (.c (.int .i64 0)), some (105, true)⟩,
  ⟨some 108, .pick (.t 105) (.t 107) (.c (.bool false)), some (102, false)⟩,
  ⟨some 109, .pick (.t 102) (.c (.bool true)) (.t 108), none⟩]
def r10_18 : List IOper := [⟨some 6, .mov (.c (.bool false)), none⟩]
def r10_19 : List IOper := [⟨some 110, .mov (.t 13), none⟩]
def r10_20 : List IOper := [⟨some 112, .mov (.t 7), none⟩,
  ⟨some 113, .mov (.t 12), none⟩,
  ⟨some 114, .mov (.t 2), none⟩,
  ⟨some 115, .callF 35 [(.t 112), (.t 113), (.t 114)], none⟩,
  ⟨some 111, .mov (.t 115), none⟩,
  ⟨some 116, .ext (.t 111) 0, none⟩,
  ⟨some 117, .ext (.t 111) 1, none⟩,
  ⟨some 15, .mov (.t 116), none⟩,
  ⟨some 16, .mov (.t 117), none⟩]
def r10_21 : List IOper := [⟨some 118, .mov (.t 7), none⟩,
  ⟨some 119, .mov (.t 12), none⟩,
  ⟨some 120, .mov (.t 2), none⟩,
  ⟨some 121, .callF 33 [(.t 118), (.t 119), (.t 120)], none⟩,
  ⟨some 122, .un .not (.t 121), none⟩,
  ⟨some 123, .mov (.t 122), none⟩,
  ⟨some 124, .mov (.t 16), some (123, false)⟩,
  ⟨some 125, .mov (.t 124), some (123, false)⟩,
  ⟨some 126, .mov (.t 15), some (125, true)⟩,
  ⟨some 127, .mov (.t 11), some (125, true)⟩,
  ⟨some 128, .bin .eql (.t 126) (.t 127), some (125, true)⟩,
  ⟨some 129, .pick (.t 125) (.t 128) (.c (.bool false)), some (123, false)⟩,
  ⟨some 130, .pick (.t 123) (.c (.bool true)) (.t 129), none⟩]
def r10_22 : List IOper := [⟨some 6, .mov (.c (.bool false)), none⟩]
def r10_23 : List IOper := [⟨some 131, .bin .add (.t 60) (.c (.int .i64 1)), none⟩,
  ⟨some 60, .mov (.t 131), none⟩]
def r10_24 : List IOper := [⟨some 6, .mov (.c (.bool true)), none⟩]
def b10 : ICode :=
 (.seq (.reg [(0, false), (1, false)] r10_0)
 (.seq (.seq (.reg [(0, false), (1, false)] r10_1)
 (.cond (.t 18) (.seq (.reg [(0, false)] r10_2)
 .ret)
 .skip))
 (.seq (.reg [(0, false), (1, false), (2, false), (3, false), (4, false), (5, false), (6, false)] r10_3)
 (.seq (.seq (.reg [(0, false), (1, false)] r10_4)
 (.cond (.t 26) (.seq (.reg [(0, false)] r10_5)
 .ret)
 .skip))
 (.seq (.reg [(0, false), (1, false), (2, false), (3, false)] r10_6)
 (.seq (.seq (.reg [(0, false)] r10_7)
 (.seq (.block 0 (.loop (.seq (.mask [1, 2, 7, 8]) (.seq (.seq (.reg [(0, false), (1, false), (2, false), (3, false), (4, false), (5, false), (6, false), (7, false)] r10_8)
 (.cond (.t 37) .skip
 (.exit 0)))
 (.seq (.seq (.block 1 (.reg [(0, false), (1, false), (2, false), (3, false), (4, false), (5, false), (6, false), (7, false), (8, false), (9, false), (10, false), (11, false), (12, false), (13, false)] r10_9)) (.mask [1, 2, 7, 8]))
 (.reg [(0, false), (1, false), (2, false)] r10_10)))))) (.mask [2, 7])))
 (.seq (.reg [(0, false), (1, false), (2, false), (3, false), (4, false), (5, false), (6, false), (7, false)] r10_11)
 (.seq (.seq (.reg [(0, false)] r10_12)
 (.seq (.block 2 (.loop (.seq (.mask [2, 7, 9, 10, 60]) (.seq (.reg [(0, false)] r10_13)
 (.seq (.cond (.t 61) .skip
 (.exit 2))
 (.seq (.seq (.block 3 (.seq (.reg [(0, false), (1, false)] r10_14)
 (.seq (.reg [(0, false), (1, false), (2, false), (3, false), (4, false), (5, false), (6, false), (7, false), (8, false)] r10_15)
 (.seq (.reg [(0, false), (1, false), (2, false), (3, false), (4, false), (5, false), (6, false), (7, false), (8, false), (9, false), (10, false), (11, false), (12, false), (13, false), (14, false), (15, false), (16, false), (17, false), (18, false), (19, false), (20, false), (21, false)] r10_16)
 (.seq (.seq (.reg [(0, false), (1, false), (2, false), (3, false), (4, false), (5, false), (6, false), (7, false), (8, false), (9, false), (10, false), (11, false), (12, false), (13, false), (14, false), (15, false), (16, false), (17, false), (18, false)] r10_17)
 (.cond (.t 109) (.seq (.reg [(0, false)] r10_18)
 .ret)
 .skip))
 (.seq (.reg [(0, false)] r10_19)
 (.seq (.cond (.t 110) (.seq (.reg [(0, false), (1, false), (2, false), (3, false), (4, false), (5, false), (6, false), (7, false), (8, false)] r10_20)
 (.seq (.reg [(0, false), (1, false), (2, false), (3, false), (4, false), (5, false), (6, false), (7, false), (8, false), (9, false), (10, false), (11, false), (12, false)] r10_21)
 (.cond (.t 130) (.seq (.reg [(0, false)] r10_22)
 .ret)
 .skip)))
 .skip) (.mask [2, 7, 9, 10, 60])))))))) (.mask [2, 7, 9, 10, 60]))
 (.reg [(0, false), (1, false)] r10_23))))))) (.mask [])))
 (.seq (.reg [(0, false)] r10_24)
 .ret)))))))))
def f10 : IFunc := { nt := 132, res := [((.t 6), none)], body := b10 }
def ps10 : List Phases := [⟨[([(0, false), (1, false), (2, false), (3, false), (4, false), (5, false), (6, false), (7, false), (8, false), (9, false), (10, false), (11, false), (12, false)], 13)], []⟩]
def ms10 : List (Option (List Nat)) := [none, none, some [1, 2, 7, 8], none, some [1, 2, 7, 8], some [2, 7], some [2, 7, 9, 10, 60], none, none, none, some [2, 7, 9, 10, 60], some [2, 7, 9, 10, 60], some []]
-- chatelaine/chatelainetop.ChatelaineTurns
def r13_0 : List IOper := [⟨some 4, .mov (.c (.bool false)), none⟩]
def r13_1 : List IOper := [⟨some 5, .mov (.c .nils), none⟩]
def r13_2 : List IOper := [⟨some 6, .alloc [(.int .u64 0), (.int .i64 0), (.int .u64 0), (.int .i64 0), (.int .u64 0), (.int .i64 0), (.int .u64 0), (.int .i64 0), (.int .u64 0), (.int .i64 0), (.int .u64 0), (.int .i64 0), (.int .u64 0), (.int .i64 0), (.int .u64 0), (.int .i64 0), (.int .u64 0), (.int .i64 0), (.int .u64 0), (.int .i64 0), (.int .u64 0), (.int .i64 0), (.int .u64 0), (.int .i64 0)], none⟩]
def r13_3 : List IOper := [⟨some 7, .mov (.c (.int .i64 0)), none⟩]
def r13_4 : List IOper := [⟨some 14, .mov (.t 7), none⟩,
  ⟨some 15, .mov (.t 0), none⟩,
  ⟨some 16, .lenL (.t 15), none⟩,
  ⟨some 17, .bin .lss (.t 14) (.t 16), none⟩,
  ⟨some 18, .mov (.t 17), none⟩,
  ⟨some 19, .mov (.t 7), some (18, true)⟩,
  ⟨some 20, .bin .lss (.t 19) (.c (.int .i64 60)), some (18, true)⟩,
  ⟨some 21, .pick (.t 18) (.t 20) (.c (.bool false)), none⟩]
def r13_5 : List IOper := [⟨some 24, .mov (.t 0), none⟩,
  ⟨some 25, .mov (.t 7), none⟩,
  ⟨some 26, .ixS 1 (.t 24) (.t 25), none⟩,
  ⟨some 27, .load none (.t 26), none⟩,
  ⟨some 28, .bin .rem (.t 27) (.c (.int .i64 12)), none⟩,
  ⟨some 29, .bin .add (.t 28) (.c (.int .i64 12)), none⟩,
  ⟨some 30, .bin .rem (.t 29) (.c (.int .i64 12)), none⟩,
  ⟨some 8, .mov (.t 30), none⟩]
def r13_6 : List IOper := [⟨some 32, .mov (.t 8), none⟩,
  ⟨some 33, .ixA 12 2 (.t 6) (.t 32), none⟩,
  ⟨some 34, .load (some 2) (.t 33), none⟩,
  ⟨some 35, .mov (.t 8), none⟩,
  ⟨some 36, .callF 38 [(.t 34), (.t 35)], none⟩,
  ⟨some 31, .mov (.t 36), none⟩,
  ⟨some 37, .ext (.t 31) 0, none⟩,
  ⟨some 38, .ext (.t 31) 1, none⟩,
  ⟨some 9, .alloc [(.int .u64 0), (.int .i64 0)], none⟩,
  ⟨none, .store 2 (.t 9) (.t 37), none⟩,
  ⟨some 10, .mov (.t 38), none⟩]
def r13_7 : List IOper := [⟨some 39, .mov (.t 10), none⟩,
  ⟨some 40, .bin .neq (.t 39) (.c (.int .i64 0)), none⟩,
  ⟨some 41, .mov (.t 40), none⟩,
  ⟨some 42, .load (some 2) (.t 9), some (41, false)⟩,
  ⟨some 43, .mov (.t 8), some (41, false)⟩,
  ⟨some 44, .ixA 12 2 (.t 6) (.t 43), some (41, false)⟩,
  ⟨some 45, .load (some 2) (.t 44), some (41, false)⟩,
  ⟨some 46, .callF 40 [(.t 42), (.t 45)], some (41, false)⟩,
  ⟨some 47, .bin .leq (.t 46) (.c (.int .i64 0)), some (41, false)⟩,
  ⟨some 48, .pick (.t 41) (.c (.bool true)) (.t 47), none⟩]
def r13_8 : List IOper := [⟨some 4, .mov (.c (.bool false)), none⟩]
def r13_9 : List IOper := [⟨some 49, .mov (.t 5), none⟩,
  ⟨some 50, .lenL (.t 49), none⟩,
  ⟨some 51, .mov (.c (.int .i64 0)), none⟩]
def r13_10 : List IOper := [⟨some 52, .bin .lss (.t 51) (.t 50), none⟩]
def r13_11 : List IOper := [⟨some 53, .ixS 2 (.t 49) (.t 51), none⟩,
  ⟨some 54, .load (some 2) (.t 53), none⟩,
  ⟨some 12, .alloc [(.int .u64 0), (.int .i64 0)], none⟩,
  ⟨none, .store 2 (.t 12) (.t 54), none⟩]
def r13_12 : List IOper := [⟨some 55, .load (some 2) (.t 12), none⟩,
  ⟨some 56, .load (some 2) (.t 9), none⟩,
  ⟨some 57, .eqs false [1, 1] (.t 55) (.t 56), none⟩,
  ⟨some 58, .mov (.t 57), none⟩,
  ⟨some 59, .load (some 2) (.t 12), some (58, false)⟩,
  ⟨some 60, .load (some 2) (.t 9), some (58, false)⟩,
  ⟨some 61, .callF 40 [(.t 59), (.t 60)], some (58, false)⟩,
  ⟨some 62, .bin .eql (.t 61) (.c (.int .i64 0)), some (58, false)⟩,
  ⟨some 63, .pick (.t 58) (.c (.bool true)) (.t 62), none⟩,
  ⟨some 64, .mov (.t 63), none⟩,
  ⟨some 65, .load (some 2) (.t 12), some (64, false)⟩,
  ⟨some 66, .load (some 2) (.t 9), some (64, false)⟩,
  ⟨some 67, .callF 40 [(.t 65), (.t 66)], some (64, false)⟩,
  ⟨some 68, .load (some 2) (.t 9), some (64, false)⟩,
  ⟨some 69, .load (some 2) (.t 12), some (64, false)⟩,
  ⟨some 70, .callF 40 [(.t 68), (.t 69)], some (64, false)⟩,
  ⟨some 71, .un .neg (.t 70), some (64, false)⟩,
  ⟨some 72, .bin .neq (.t 67) (.t 71), some (64, false)⟩,
  ⟨some 73, .pick (.t 64) (.c (.bool true)) (.t 72), none⟩]
def r13_13 : List IOper := [⟨some 4, .mov (.c (.bool false)), none⟩]
def r13_14 : List IOper := [⟨some 74, .bin .add (.t 51) (.c (.int .i64 1)), none⟩,
  ⟨some 51, .mov (.t 74), none⟩]
def r13_15 : List IOper := [⟨some 75, .mov (.t 5), none⟩,
  ⟨some 76, .load (some 2) (.t 9), none⟩,
  ⟨some 77, .buildS 2 1 [(.int .u64 0), (.int .i64 0)] [(0, (.t 76))], none⟩,
  ⟨some 78, .app 2 16 (.t 75) (.t 77), none⟩,
  ⟨some 5, .mov (.t 78), none⟩]
def r13_16 : List IOper := [⟨some 79, .mov (.c (.int .i64 0)), none⟩]
def r13_17 : List IOper := [⟨some 80, .bin .lss (.t 79) (.c (.int .i64 12)), none⟩]
def r13_18 : List IOper := [⟨some 81, .mov (.t 79), none⟩,
  ⟨some 13, .mov (.t 81), none⟩]
def r13_19 : List IOper := [⟨some 82, .mov (.t 13), none⟩,
  ⟨some 83, .mov (.t 8), none⟩,
  ⟨some 84, .bin .eql (.t 82) (.t 83), none⟩,
  ⟨some 85, .mov (.t 84), none⟩,
  ⟨some 86, .mov (.t 7), some (85, false)⟩,
  ⟨some 87, .mov (.t 1), some (85, false)⟩,
  ⟨some 88, .lenL (.t 87), some (85, false)⟩,
  ⟨some 89, .bin .geq (.t 86) (.t 88), some (85, false)⟩,
  ⟨some 90, .pick (.t 85) (.c (.bool true)) (.t 89), none⟩,
  ⟨some 91, .mov (.t 90), none⟩,
  ⟨some 92, .mov (.t 1), some (91, false)⟩,
  ⟨some 93, .mov (.t 7), some (91, false)⟩,
  ⟨some 94, .ixS 1 (.t 92) (.t 93), some (91, false)⟩,
  ⟨some 95, .load none (.t 94), some (91, false)⟩,
  ⟨some 96, .un .not (.t 95), some (91, false)⟩,
  ⟨some 97, .pick (.t 91) (.c (.bool true)) (.t 96), none⟩]
def r13_20 : List IOper := [⟨some 98, .mov (.t 13), none⟩,
  ⟨some 99, .mov (.t 13), none⟩,
  ⟨some 100, .ixA 12 2 (.t 6) (.t 99), none⟩,
  ⟨some 101, .load (some 2) (.t 100), none⟩,
  ⟨some 102, .load (some 2) (.t 9), none⟩,
  ⟨some 103, .buildS 2 2 [(.int .u64 0), (.int .i64 0)] [(0, (.t 101)), (1, (.t 102))], none⟩,
  ⟨some 104, .callF 43 [(.t 103)], none⟩,
  ⟨some 105, .ixA 12 2 (.t 6) (.t 98), none⟩,
  ⟨none, .store 2 (.t 105) (.t 104), none⟩]
def r13_21 : List IOper := [⟨some 106, .bin .add (.t 79) (.c (.int .i64 1)), none⟩,
  ⟨some 79, .mov (.t 106), none⟩]
def r13_22 : List IOper := [⟨some 22, .mov (.t 7), none⟩,
  ⟨some 23, .bin .add (.t 22) (.c (.int .i64 1)), none⟩,
  ⟨some 7, .mov (.t 23), none⟩]
def r13_23 : List IOper := [⟨some 4, .mov (.c (.bool true)), none⟩]
def b13 : ICode :=
 (.seq (.reg [(0, false)] r13_0)
 (.seq (.reg [(0, false)] r13_1)
 (.seq (.reg [(0, false)] r13_2)
 (.seq (.seq (.reg [(0, false)] r13_3)
 (.seq (.block 0 (.loop (.seq (.mask [0, 1, 5, 6, 7]) (.seq (.seq (.reg [(0, false), (1, false), (2, false), (3, false), (4, false), (5, false), (6, false), (7, false)] r13_4)
 (.cond (.t 21) .skip
 (.exit 0)))
 (.seq (.seq (.block 1 (.seq (.reg [(0, false), (1, false), (2, false), (3, false), (4, false), (5, false), (6, false), (7, false)] r13_5)
 (.seq (.reg [(0, false), (1, false), (2, false), (3, false), (4, false), (5, false), (6, false), (7, false), (8, false), (9, false), (10, false)] r13_6)
 (.seq (.seq (.reg [(0, false), (1, false), (2, false), (3, false), (4, false), (5, false), (6, false), (7, false), (8, false), (9, false)] r13_7)
 (.cond (.t 48) (.seq (.reg [(0, false)] r13_8)
 .ret)
 .skip))
 (.seq (.seq (.reg [(0, false), (1, false), (2, false)] r13_9)
 (.seq (.block 2 (.loop (.seq (.mask [0, 1, 5, 6, 7, 8, 9, 49, 50, 51]) (.seq (.reg [(0, false)] r13_10)
 (.seq (.cond (.t 52) .skip
 (.exit 2))
 (.seq (.seq (.block 3 (.seq (.reg [(0, false), (1, false), (2, false), (3, false)] r13_11)
 (.seq (.reg [(0, false), (1, false), (2, false), (3, false), (4, false), (5, false), (6, false), (7, false), (8, false), (9, false), (10, false), (11, false), (13, false), (14, false), (12, false), (13, true), (14, true), (15, false), (16, false), (17, false), (18, false)] r13_12)
 (.cond (.t 73) (.seq (.reg [(0, false)] r13_13)
 .ret)
 .skip)))) (.mask [0, 1, 5, 6, 7, 8, 9, 49, 50, 51]))
 (.reg [(0, false), (1, false)] r13_14))))))) (.mask [0, 1, 5, 6, 7, 8, 9])))
 (.seq (.reg [(0, false), (1, false), (2, false), (3, false), (4, false)] r13_15)
 (.seq (.reg [(0, false)] r13_16)
 (.seq (.block 4 (.loop (.seq (.mask [0, 1, 5, 6, 7, 8, 9, 79]) (.seq (.reg [(0, false)] r13_17)
 (.seq (.cond (.t 80) .skip
 (.exit 4))
 (.seq (.seq (.block 5 (.seq (.reg [(0, false), (1, false)] r13_18)
 (.seq (.reg [(0, false), (1, false), (2, false), (3, false), (4, false), (5, false), (6, false), (7, false), (8, false), (9, false), (10, false), (11, false), (12, false), (13, false), (14, false), (15, false)] r13_19)
 (.seq (.cond (.t 97) (.reg [(0, false), (1, false), (2, false), (3, false), (4, false), (5, false), (6, false), (7, false), (8, false)] r13_20)
 .skip) (.mask [0, 1, 5, 6, 7, 8, 9, 79]))))) (.mask [0, 1, 5, 6, 7, 8, 9, 79]))
 (.reg [(0, false), (1, false)] r13_21))))))) (.mask [0, 1, 5, 6, 7]))))))))) (.mask [0, 1, 5, 6, 7]))
 (.reg [(0, false), (1, false), (2, false)] r13_22)))))) (.mask [])))
 (.seq (.reg [(0, false)] r13_23)
 .ret)))))
def f13 : IFunc := { nt := 107, res := [((.t 4), none)], body := b13 }
def ps13 : List Phases := [⟨[([(0, false), (1, false), (2, false), (3, false), (4, false), (5, false), (6, false)], 7)], [(8, false), (9, false)]⟩, ⟨[([(0, false), (1, false), (2, false), (3, false), (4, false), (5, false)], 6), ([(7, false), (8, false), (9, false), (10, false), (11, false), (13, false), (14, false)], 12), ([(13, true), (14, true)], 15)], [(16, false), (17, false), (18, false)]⟩, ⟨[([(0, false), (1, false), (2, false), (3, false), (4, false), (5, false)], 6), ([(7, false)], 8)], []⟩]
def ms13 : List (Option (List Nat)) := [some [0, 1, 5, 6, 7], none, none, some [0, 1, 5, 6, 7, 8, 9, 49, 50, 51], none, none, some [0, 1, 5, 6, 7, 8, 9, 49, 50, 51], some [0, 1, 5, 6, 7, 8, 9], some [0, 1, 5, 6, 7, 8, 9, 79], none, some [0, 1, 5, 6, 7, 8, 9, 79], some [0, 1, 5, 6, 7, 8, 9, 79], some [0, 1, 5, 6, 7], some [0, 1, 5, 6, 7], some []]
-- chatelaine/chatelainetop.ChatelaineBusy
def r14_0 : List IOper := [⟨some 1, .box 4 (.t 0), none⟩,
  ⟨some 2, .mov (.c (.bool false)), none⟩]
def r14_1 : List IOper := [⟨some 16, .ixA 4 1 (.t 1) (.c (.int .i64 0)), none⟩,
  ⟨some 17, .load none (.t 16), none⟩,
  ⟨some 18, .bin .and (.t 17) (.c (.int .i64 255)), none⟩,
  ⟨some 19, .bin .rem (.t 18) (.c (.int .i64 64)), none⟩,
  ⟨some 20, .bin .add (.c (.int .i64 1)) (.t 19), none⟩,
  ⟨some 21, .ixA 4 1 (.t 1) (.c (.int .i64 1)), none⟩,
  ⟨some 22, .load none (.t 21), none⟩,
  ⟨some 23, .bin .and (.t 22) (.c (.int .i64 65535)), none⟩,
  ⟨some 24, .bin .rem (.t 23) (.c (.int .i64 1000)), none⟩,
  ⟨some 25, .bin .add (.c (.int .i64 1)) (.t 24), none⟩,
  ⟨some 26, .build [(.int .i64 0), (.int .i64 0)] [(0, 1, (.t 20)), (1, 1, (.t 25))], none⟩,
  ⟨some 3, .alloc [(.int .i64 0), (.int .i64 0)], none⟩,
  ⟨none, .store 2 (.t 3) (.t 26), none⟩]
def r14_2 : List IOper := [⟨some 27, .ixA 4 1 (.t 1) (.c (.int .i64 2)), none⟩,
  ⟨some 28, .load none (.t 27), none⟩,
  ⟨some 29, .mini [(.t 28), (.c (.int .i64 1073741824))], none⟩,
  ⟨some 30, .maxi [(.c (.int .i64 0)), (.t 29)], none⟩,
  ⟨some 4, .mov (.t 30), none⟩]
def r14_3 : List IOper := [⟨some 31, .ixA 4 1 (.t 1) (.c (.int .i64 3)), none⟩,
  ⟨some 32, .load none (.t 31), none⟩,
  ⟨some 33, .bin .and (.t 32) (.c (.int .i64 3)), none⟩,
  ⟨some 5, .mov (.t 33), none⟩]
def r14_4 : List IOper := [⟨some 34, .load (some 2) (.t 3), none⟩,
  ⟨some 35, .callF 28 [(.t 34), (.c (.int .i64 4))], none⟩,
  ⟨some 6, .mov (.t 35), none⟩]
def r14_5 : List IOper := [⟨some 36, .mov (.t 6), none⟩,
  ⟨some 37, .eqn 1 false (.t 36) (.c .nilp), none⟩,
  ⟨some 38, .mov (.t 37), none⟩,
  ⟨some 39, .load (some 2) (.t 3), some (38, false)⟩,
  ⟨some 40, .callF 26 [(.t 39)], some (38, false)⟩,
  ⟨some 41, .bin .neq (.t 40) (.c (.int .i64 0)), some (38, false)⟩,
  ⟨some 42, .pick (.t 38) (.c (.bool true)) (.t 41), none⟩]
def r14_6 : List IOper := [⟨some 2, .mov (.c (.bool false)), none⟩]
def r14_7 : List IOper := [⟨some 43, .fld 0 (.t 3), none⟩,
  ⟨some 44, .load none (.t 43), none⟩,
  ⟨some 45, .mov (.c (.int .i64 0)), none⟩]
def r14_8 : List IOper := [⟨some 46, .bin .lss (.t 45) (.t 44), none⟩]
def r14_9 : List IOper := [⟨some 47, .mov (.t 45), none⟩,
  ⟨some 7, .mov (.t 47), none⟩]
def r14_10 : List IOper := [⟨some 48, .mov (.t 6), none⟩,
  ⟨some 49, .mov (.t 5), none⟩,
  ⟨some 50, .mov (.t 4), none⟩,
  ⟨some 51, .callF 33 [(.t 48), (.t 49), (.t 50)], none⟩,
  ⟨some 52, .mov (.t 51), none⟩,
  ⟨some 53, .mov (.t 6), some (52, false)⟩,
  ⟨some 54, .mov (.t 5), some (52, false)⟩,
  ⟨some 55, .mov (.t 4), some (52, false)⟩,
  ⟨some 56, .callF 30 [(.t 53), (.t 54), (.t 55)], some (52, false)⟩,
  ⟨some 57, .un .not (.t 56), some (52, false)⟩,
  ⟨some 58, .pick (.t 52) (.c (.bool true)) (.t 57), none⟩,
  ⟨some 59, .mov (.t 58), none⟩,
  ⟨some 60, .mov (.t 6), some (59, false)⟩,
  ⟨some 61, .mov (.t 5), some (59, false)⟩,
  ⟨some 62, .mov (.t 4), some (59, false)⟩,
  ⟨some 63, .callF 32 [(.t 60), (.t 61), (.t 62)], some (59, false)⟩,
  ⟨some 64, .mov (.t 7), some (59, false)⟩,
  ⟨some 65, .bin .add (.t 64) (.c (.int .i64 1)), some (59, false)⟩,
  ⟨some 66, .bin .neq (.t 63) (.t 65), some (59, false)⟩,
  ⟨some 67, .pick (.t 59) (.c (.bool true)) (.t 66), none⟩]
def r14_11 : List IOper := [⟨some 2, .mov (.c (.bool false)), none⟩]
def r14_12 : List IOper := [⟨some 68, .bin .add (.t 45) (.c (.int .i64 1)), none⟩,
  ⟨some 45, .mov (.t 68), none⟩]
def r14_13 : List IOper := [⟨some 69, .mov (.t 5), none⟩,
  ⟨some 70, .bin .add (.t 69) (.c (.int .i64 1)), none⟩,
  ⟨some 71, .bin .and (.t 70) (.c (.int .i64 3)), none⟩,
  ⟨some 8, .mov (.t 71), none⟩]
def r14_14 : List IOper := [⟨some 73, .mov (.t 6), none⟩,
  ⟨some 74, .mov (.t 8), none⟩,
  ⟨some 75, .mov (.t 4), none⟩,
  ⟨some 76, .callF 35 [(.t 73), (.t 74), (.t 75)], none⟩,
  ⟨some 72, .mov (.t 76), none⟩,
  ⟨some 77, .ext (.t 72) 0, none⟩,
  ⟨some 78, .ext (.t 72) 1, none⟩,
  ⟨some 9, .mov (.t 77), none⟩,
  ⟨some 10, .mov (.t 78), none⟩]
def r14_15 : List IOper := [⟨some 80, .mov (.t 6), none⟩,
  ⟨some 81, .mov (.t 5), none⟩,
  ⟨some 82, .mov (.t 4), none⟩,
  ⟨some 83, .callF 35 [(.t 80), (.t 81), (.t 82)], none⟩,
  ⟨some 79, .mov (.t 83), none⟩,
  ⟨some 84, .ext (.t 79) 0, none⟩,
  ⟨some 85, .ext (.t 79) 1, none⟩,
  ⟨some 11, .mov (.t 84), none⟩,
  ⟨some 12, .mov (.t 85), none⟩]
def r14_16 : List IOper := [⟨some 86, .mov (.t 4), none⟩,
  ⟨some 87, .fld 1 (.t 3), none⟩,
  ⟨some 88, .load none (.t 87), none⟩,
  ⟨some 89, .bin .add (.t 86) (.t 88), none⟩,
  ⟨some 13, .mov (.t 89), none⟩]
def r14_17 : List IOper := [⟨some 91, .mov (.t 6), none⟩,
  ⟨some 92, .mov (.t 8), none⟩,
  ⟨some 93, .mov (.t 13), none⟩,
  ⟨some 94, .callF 35 [(.t 91), (.t 92), (.t 93)], none⟩,
  ⟨some 90, .mov (.t 94), none⟩,
  ⟨some 95, .ext (.t 90) 0, none⟩,
  ⟨some 96, .ext (.t 90) 1, none⟩,
  ⟨some 14, .mov (.t 95), none⟩,
  ⟨some 15, .mov (.t 96), none⟩]
def r14_18 : List IOper := [⟨some 97, .mov (.t 6), none⟩,
  ⟨some 98, .mov (.t 5), none⟩,
  ⟨some 99, .mov (.t 4), none⟩,
  ⟨some 100, .callF 33 [(.t 97), (.t 98), (.t 99)], none⟩,
  ⟨some 101, .mov (.t 100), none⟩,
  ⟨some 102, .mov (.t 10), some (101, true)⟩,
  ⟨some 103, .pick (.t 101) (.t 102) (.c (.bool false)), none⟩,
  ⟨some 104, .mov (.t 103), none⟩,
  ⟨some 105, .mov (.t 9), some (104, true)⟩,
  ⟨some 106, .mov (.t 5), some (104, true)⟩,
  ⟨some 107, .bin .eql (.t 105) (.t 106), some (104, true)⟩,
  ⟨some 108, .pick (.t 104) (.t 107) (.c (.bool false)), none⟩,
  ⟨some 109, .mov (.t 108), none⟩,
  ⟨some 110, .mov (.t 12), some (109, true)⟩,
  ⟨some 111, .un .not (.t 110), some (109, true)⟩,
  ⟨some 112, .pick (.t 109) (.t 111) (.c (.bool false)), none⟩,
  ⟨some 113, .mov (.t 112), none⟩,
  ⟨some 114, .mov (.t 6), some (113, true)⟩,
  ⟨some 115, .mov (.t 8), some (113, true)⟩,
  ⟨some 116, .mov (.t 4), some (113, true)⟩,
  ⟨some 117, .callF 33 [(.t 114), (.t 115), (.t 116)], some (113, true)⟩,
  ⟨some 118, .un .not (.t 117), some (113, true)⟩,
  ⟨some 119, .pick (.t 113) (.t 118) (.c (.bool false)), none⟩,
  ⟨some 120, .mov (.t 119), none⟩,
  ⟨some 121, .mov (.t 6), some (120, true)⟩,
  ⟨some 122, .mov (.t 5), some (120, true)⟩,
  ⟨some 123, .mov (.t 13), some (120, true)⟩,
  ⟨some 124, .bin .sub (.t 123) (.c (.int .i64 1)), some (120, true)⟩,
  ⟨some 125, .callF 33 [(.t 121), (.t 122), (.t 124)], some (120, true)⟩,
  ⟨some 126, .pick (.t 120) (.t 125) (.c (.bool false)), none⟩,
  ⟨some 127, .mov (.t 126), none⟩,
  ⟨some 128, .mov (.t 6), some (127, true)⟩,
  ⟨some 129, .mov (.t 5), some (127, true)⟩,
  ⟨some 130, .mov (.t 13), some (127, true)⟩,
  ⟨some 131, .callF 33 [(.t 128), (.t 129), (.t 130)], some (127, true)⟩,
  ⟨some 132, .un .not (.t 131), some (127, true)⟩,
  ⟨some 133, .pick (.t 127) (.t 132) (.c (.bool false)), none⟩,
  ⟨some 134, .mov (.t 133), none⟩,
  ⟨some 135, .mov (.t 15), some (134, true)⟩,
  ⟨some 136, .un .not (.t 135), some (134, true)⟩,
  ⟨some 137, .pick (.t 134) (.t 136) (.c (.bool false)), none⟩,
  ⟨some 2, .mov (.t 137), none⟩]
def b14 : ICode :=
 (.seq (.reg [(0, false), (1, false)] r14_0)
 (.seq (.reg [(0, false), (1, false), (2, false), (3, false), (4, false), (5, false), (6, false), (7, false), (8, false), (9, false), (10, false), (11, false), (12, false)] r14_1)
 (.seq (.reg [(0, false), (1, false), (2, false), (3, false), (4, false)] r14_2)
 (.seq (.reg [(0, false), (1, false), (2, false), (3, false)] r14_3)
 (.seq (.reg [(0, false), (1, false), (2, false)] r14_4)
 (.seq (.seq (.reg [(0, false), (1, false), (2, false), (3, false), (4, false), (5, false), (6, false)] r14_5)
 (.cond (.t 42) (.seq (.reg [(0, false)] r14_6)
 .ret)
 .skip))
 (.seq (.seq (.reg [(0, false), (1, false), (2, false)] r14_7)
 (.seq (.block 0 (.loop (.seq (.mask [3, 4, 5, 6, 44, 45]) (.seq (.reg [(0, false)] r14_8)
 (.seq (.cond (.t 46) .skip
 (.exit 0))
 (.seq (.seq (.block 1 (.seq (.reg [(0, false), (1, false)] r14_9)
 (.seq (.reg [(0, false), (1, false), (2, false), (3, false), (4, false), (5, false), (6, false), (7, false), (8, false), (9, false), (10, false), (11, false), (12, false), (13, false), (14, false), (15, false), (16, false), (17, false), (18, false), (19, false)] r14_10)
 (.cond (.t 67) (.seq (.reg [(0, false)] r14_11)
 .ret)
 .skip)))) (.mask [3, 4, 5, 6, 44, 45]))
 (.reg [(0, false), (1, false)] r14_12))))))) (.mask [3, 4, 5, 6])))
 (.seq (.reg [(0, false), (1, false), (2, false), (3, false)] r14_13)
 (.seq (.reg [(0, false), (1, false), (2, false), (3, false), (4, false), (5, false), (6, false), (7, false), (8, false)] r14_14)
 (.seq (.reg [(0, false), (1, false), (2, false), (3, false), (4, false), (5, false), (6, false), (7, false), (8, false)] r14_15)
 (.seq (.reg [(0, false), (1, false), (2, false), (3, false), (4, false)] r14_16)
 (.seq (.reg [(0, false), (1, false), (2, false), (3, false), (4, false), (5, false), (6, false), (7, false), (8, false)] r14_17)
 (.seq (.reg [(0, false), (1, false), (2, false), (3, false), (4, false), (5, false), (6, false), (7, false), (8, false), (9, false), (10, false), (11, false), (12, false), (13, false), (14, false), (15, false), (16, false), (17, false), (18, false), (19, false), (20, false), (21, false), (22, false), (23, false), (24, false), (25, false), (26, false), (27, false), (28, false), (29, false), (30, false), (31, false), (32, false), (33, false), (34, false), (35, false), (36, false), (37, false), (38, false), (39, false), (40, false), (41, false)] r14_18)
 .ret)))))))))))))
def f14 : IFunc := { nt := 138, res := [((.t 2), none)], body := b14 }
def ps14 : List Phases := []
def ms14 : List (Option (List Nat)) := [none, some [3, 4, 5, 6, 44, 45], none, none, some [3, 4, 5, 6, 44, 45], some [3, 4, 5, 6]]
-- chatelaine/chatelainelaw04.awake
def r15_0 : List IOper := [⟨some 0, .mov (.c (.bool false)), none⟩]
def r15_1 : List IOper := [⟨some 2, .build [(.int .i64 0), (.int .i64 0)] [(0, 1, (.c (.int .i64 11))), (1, 1, (.c (.int .i64 10)))], none⟩,
  ⟨some 1, .alloc [(.int .i64 0), (.int .i64 0)], none⟩,
  ⟨none, .store 2 (.t 1) (.t 2), none⟩]
def r15_2 : List IOper := [⟨some 3, .load (some 2) (.t 1), none⟩,
  ⟨some 4, .callF 18 [(.t 3), (.c (.int .i64 20))], none⟩,
  ⟨some 5, .bin .eql (.t 4) (.c (.int .i64 22)), none⟩,
  ⟨some 6, .mov (.t 5), none⟩,
  ⟨some 7, .load (some 2) (.t 1), some (6, true)⟩,
  ⟨some 8, .callF 18 [(.t 7), (.c (.int .i64 21))], some (6, true)⟩,
  ⟨some 9, .bin .eql (.t 8) (.c (.int .i64 24)), some (6, true)⟩,
  ⟨some 10, .pick (.t 6) (.t 9) (.c (.bool false)), none⟩,
  ⟨some 11, .mov (.t 10), none⟩,
  ⟨some 12, .load (some 2) (.t 1), some (11, true)⟩,
  ⟨some 13, .callF 20 [(.t 12), (.c (.int .i64 20))], some (11, true)⟩,
  ⟨some 14, .bin .eql (.t 13) (.c (.int .i64 18)), some (11, true)⟩,
  ⟨some 15, .pick (.t 11) (.t 14) (.c (.bool false)), none⟩,
  ⟨some 16, .mov (.t 15), none⟩,
  ⟨some 17, .load (some 2) (.t 1), some (16, true)⟩,
  ⟨some 18, .callF 16 [(.t 17)], some (16, true)⟩,
  ⟨some 19, .bin .eql (.t 18) (.c (.int .i64 0)), some (16, true)⟩,
  ⟨some 20, .pick (.t 16) (.t 19) (.c (.bool false)), none⟩,
  ⟨some 0, .mov (.t 20), none⟩]
def b15 : ICode :=
 (.seq (.reg [(0, false)] r15_0)
 (.seq (.reg [(0, false), (1, false), (2, false)] r15_1)
 (.seq (.reg [(0, false), (1, false), (2, false), (3, false), (4, false), (5, false), (6, false), (7, false), (8, false), (9, false), (10, false), (11, false), (12, false), (13, false), (14, false), (15, false), (16, false), (17, false), (18, false)] r15_2)
 .ret)))
def f15 : IFunc := { nt := 21, res := [((.t 0), none)], body := b15 }
def ps15 : List Phases := []
def ms15 : List (Option (List Nat)) := []
-- (chatelaine/drift.Rate).Check
def r16_0 : List IOper := [⟨some 1, .box 2 (.t 0), none⟩,
  ⟨some 2, .mov (.c (.int .i64 0)), none⟩]
def r16_1 : List IOper := [⟨some 3, .fld 1 (.t 1), none⟩,
  ⟨some 4, .load none (.t 3), none⟩,
  ⟨some 5, .bin .lss (.t 4) (.c (.int .i64 1)), none⟩,
  ⟨some 6, .mov (.t 5), none⟩,
  ⟨some 7, .fld 0 (.t 1), some (6, false)⟩,
  ⟨some 8, .load none (.t 7), some (6, false)⟩,
  ⟨some 9, .fld 1 (.t 1), some (6, false)⟩,
  ⟨some 10, .load none (.t 9), some (6, false)⟩,
  ⟨some 11, .bin .lss (.t 8) (.t 10), some (6, false)⟩,
  ⟨some 12, .pick (.t 6) (.c (.bool true)) (.t 11), none⟩,
  ⟨some 13, .mov (.t 12), none⟩,
  ⟨some 14, .fld 0 (.t 1), some (13, false)⟩,
  ⟨some 15, .load none (.t 14), some (13, false)⟩,
  ⟨some 16, .bin .gtr (.t 15) (.c (.int .i64 1000)), some (13, false)⟩,
  ⟨some 17, .pick (.t 13) (.c (.bool true)) (.t 16), none⟩,
  ⟨some 18, .mov (.t 17), none⟩,
  ⟨some 19, .fld 0 (.t 1), some (18, false)⟩,
  ⟨some 20, .load none (.t 19), some (18, false)⟩,
  ⟨some 21, .fld 1 (.t 1), some (18, false)⟩,
  ⟨some 22, .load none (.t 21), some (18, false)⟩,
  ⟨some 23, .bin .mul (.c (.int .i64 4)) (.t 22), some (18, false)⟩,
  ⟨some 24, .bin .gtr (.t 20) (.t 23), some (18, false)⟩,
  ⟨some 25, .pick (.t 18) (.c (.bool true)) (.t 24), none⟩]
def r16_2 : List IOper := [⟨some 2, .mov (.c (.int .i64 12)), none⟩]
def r16_3 : List IOper := [⟨some 2, .mov (.c (.int .i64 0)), none⟩]
def b16 : ICode :=
 (.seq (.reg [(0, false), (1, false)] r16_0)
 (.seq (.seq (.reg [(0, false), (1, false), (2, false), (3, false), (4, false), (5, false), (6, false), (7, false), (8, false), (9, false), (10, false), (11, false), (12, false), (13, false), (14, false), (15, false), (16, false), (17, false), (18, false), (19, false), (20, false), (21, false), (22, false)] r16_1)
 (.cond (.t 25) (.seq (.reg [(0, false)] r16_2)
 .ret)
 .skip))
 (.seq (.reg [(0, false)] r16_3)
 .ret)))
def f16 : IFunc := { nt := 26, res := [((.t 2), none)], body := b16 }
def ps16 : List Phases := []
def ms16 : List (Option (List Nat)) := [none]
-- (chatelaine/drift.Rate).Longer
def r18_0 : List IOper := [⟨some 2, .box 2 (.t 0), none⟩,
  ⟨some 4, .mov (.c (.int .i64 0)), none⟩]
def r18_1 : List IOper := [⟨some 5, .mov (.t 1), none⟩,
  ⟨some 6, .callF 44 [(.t 5)], none⟩,
  ⟨some 1, .mov (.t 6), none⟩]
def r18_2 : List IOper := [⟨some 7, .load (some 2) (.t 2), none⟩,
  ⟨some 8, .callF 16 [(.t 7)], none⟩,
  ⟨some 9, .bin .neq (.t 8) (.c (.int .i64 0)), none⟩]
def r18_3 : List IOper := [⟨some 10, .mov (.t 1), none⟩,
  ⟨some 4, .mov (.t 10), none⟩]
def r18_4 : List IOper := [⟨some 11, .mov (.t 1), none⟩,
  ⟨some 12, .fld 0 (.t 2), none⟩,
  ⟨some 13, .load none (.t 12), none⟩,
  ⟨some 14, .bin .mul (.t 11) (.t 13), none⟩,
  ⟨some 15, .fld 1 (.t 2), none⟩,
  ⟨some 16, .load none (.t 15), none⟩,
  ⟨some 17, .bin .add (.t 14) (.t 16), none⟩,
  ⟨some 18, .bin .sub (.t 17) (.c (.int .i64 1)), none⟩,
  ⟨some 19, .fld 1 (.t 2), none⟩,
  ⟨some 20, .load none (.t 19), none⟩,
  ⟨some 21, .bin .quo (.t 18) (.t 20), none⟩,
  ⟨some 4, .mov (.t 21), none⟩]
def b18 : ICode :=
 (.seq (.reg [(0, false), (1, false)] r18_0)
 (.seq (.reg [(0, false), (1, false), (2, false)] r18_1)
 (.seq (.seq (.reg [(0, false), (1, false), (2, false)] r18_2)
 (.cond (.t 9) (.seq (.reg [(0, false), (1, false)] r18_3)
 .ret)
 .skip))
 (.seq (.reg [(0, false), (1, false), (2, false), (3, false), (4, false), (5, false), (6, false), (7, false), (8, false), (9, false), (10, false), (11, false)] r18_4)
 .ret))))
def f18 : IFunc := { nt := 22, res := [((.t 4), none)], body := b18 }
def ps18 : List Phases := []
def ms18 : List (Option (List Nat)) := [none]
-- (chatelaine/drift.Rate).Shorter
def r20_0 : List IOper := [⟨some 2, .box 2 (.t 0), none⟩,
  ⟨some 4, .mov (.c (.int .i64 0)), none⟩]
def r20_1 : List IOper := [⟨some 5, .mov (.t 1), none⟩,
  ⟨some 6, .callF 44 [(.t 5)], none⟩,
  ⟨some 1, .mov (.t 6), none⟩]
def r20_2 : List IOper := [⟨some 7, .load (some 2) (.t 2), none⟩,
  ⟨some 8, .callF 16 [(.t 7)], none⟩,
  ⟨some 9, .bin .neq (.t 8) (.c (.int .i64 0)), none⟩]
def r20_3 : List IOper := [⟨some 10, .mov (.t 1), none⟩,
  ⟨some 4, .mov (.t 10), none⟩]
def r20_4 : List IOper := [⟨some 11, .mov (.t 1), none⟩,
  ⟨some 12, .fld 1 (.t 2), none⟩,
  ⟨some 13, .load none (.t 12), none⟩,
  ⟨some 14, .bin .mul (.t 11) (.t 13), none⟩,
  ⟨some 15, .fld 0 (.t 2), none⟩,
  ⟨some 16, .load none (.t 15), none⟩,
  ⟨some 17, .bin .quo (.t 14) (.t 16), none⟩,
  ⟨some 4, .mov (.t 17), none⟩]
def b20 : ICode :=
 (.seq (.reg [(0, false), (1, false)] r20_0)
 (.seq (.reg [(0, false), (1, false), (2, false)] r20_1)
 (.seq (.seq (.reg [(0, false), (1, false), (2, false)] r20_2)
 (.cond (.t 9) (.seq (.reg [(0, false), (1, false)] r20_3)
 .ret)
 .skip))
 (.seq (.reg [(0, false), (1, false), (2, false), (3, false), (4, false), (5, false), (6, false), (7, false)] r20_4)
 .ret))))
def f20 : IFunc := { nt := 18, res := [((.t 4), none)], body := b20 }
def ps20 : List Phases := []
def ms20 : List (Option (List Nat)) := [none]
-- chatelaine/chatelainelaw04.Near
def r23_0 : List IOper := [⟨some 4, .alloc [(.int .i64 0), (.int .i64 0)], none⟩]
def r23_1 : List IOper := [⟨some 5, .mov (.t 1), none⟩,
  ⟨some 6, .bin .and (.t 5) (.c (.int .i64 65535)), none⟩,
  ⟨some 7, .bin .rem (.t 6) (.c (.int .i64 200)), none⟩,
  ⟨some 8, .bin .add (.c (.int .i64 1)) (.t 7), none⟩,
  ⟨some 1, .mov (.t 8), none⟩]
def r23_2 : List IOper := [⟨some 9, .mov (.t 1), none⟩,
  ⟨some 10, .mov (.t 0), none⟩,
  ⟨some 11, .bin .and (.t 10) (.c (.int .i64 65535)), none⟩,
  ⟨some 12, .mov (.t 1), none⟩,
  ⟨some 13, .bin .mul (.c (.int .i64 3)) (.t 12), none⟩,
  ⟨some 14, .bin .add (.t 13) (.c (.int .i64 1)), none⟩,
  ⟨some 15, .bin .rem (.t 11) (.t 14), none⟩,
  ⟨some 16, .bin .add (.t 9) (.t 15), none⟩,
  ⟨some 17, .mov (.t 1), none⟩,
  ⟨some 18, .build [(.int .i64 0), (.int .i64 0)] [(0, 1, (.t 16)), (1, 1, (.t 17))], none⟩,
  ⟨none, .store 2 (.t 4) (.t 18), none⟩]
def b23 : ICode :=
 (.seq (.reg [(0, false)] r23_0)
 (.seq (.reg [(0, false), (1, false), (2, false), (3, false), (4, false)] r23_1)
 (.seq (.reg [(0, false), (1, false), (2, false), (3, false), (4, false), (5, false), (6, false), (7, false), (8, false), (9, false), (10, false)] r23_2)
 .ret)))
def f23 : IFunc := { nt := 19, res := [((.t 4), some (some 2))], body := b23 }
def ps23 : List Phases := []
def ms23 : List (Option (List Nat)) := []
-- (chatelaine/drift.Rate).Fits
def r24_0 : List IOper := [⟨some 3, .box 2 (.t 0), none⟩,
  ⟨some 6, .mov (.c (.bool false)), none⟩]
def r24_1 : List IOper := [⟨some 7, .load (some 2) (.t 3), none⟩,
  ⟨some 8, .callF 16 [(.t 7)], none⟩,
  ⟨some 9, .bin .neq (.t 8) (.c (.int .i64 0)), none⟩,
  ⟨some 10, .mov (.t 9), none⟩,
  ⟨some 11, .mov (.t 1), some (10, false)⟩,
  ⟨some 12, .mov (.t 1), some (10, false)⟩,
  ⟨some 13, .callF 44 [(.t 12)], some (10, false)⟩,
  ⟨some 14, .bin .neq (.t 11) (.t 13), some (10, false)⟩,
  ⟨some 15, .pick (.t 10) (.c (.bool true)) (.t 14), none⟩,
  ⟨some 16, .mov (.t 15), none⟩,
  ⟨some 17, .mov (.t 2), some (16, false)⟩,
  ⟨some 18, .mov (.t 2), some (16, false)⟩,
  ⟨some 19, .callF 44 [(.t 18)], some (16, false)⟩,
  ⟨some 20, .bin .neq (.t 17) (.t 19), some (16, false)⟩,
  ⟨some 21, .pick (.t 16) (.c (.bool true)) (.t 20), none⟩]
def r24_2 : List IOper := [⟨some 6, .mov (.c (.bool false)), none⟩]
def r24_3 : List IOper := [⟨some 22, .mov (.t 1), none⟩,
  ⟨some 23, .fld 1 (.t 3), none⟩,
  ⟨some 24, .load none (.t 23), none⟩,
  ⟨some 25, .bin .mul (.t 22) (.t 24), none⟩,
  ⟨some 26, .mov (.t 2), none⟩,
  ⟨some 27, .fld 0 (.t 3), none⟩,
  ⟨some 28, .load none (.t 27), none⟩,
  ⟨some 29, .bin .mul (.t 26) (.t 28), none⟩,
  ⟨some 30, .bin .leq (.t 25) (.t 29), none⟩,
  ⟨some 31, .mov (.t 30), none⟩,
  ⟨some 32, .mov (.t 2), some (31, true)⟩,
  ⟨some 33, .fld 1 (.t 3), some (31, true)⟩,
  ⟨some 34, .load none (.t 33), some (31, true)⟩,
  ⟨some 35, .bin .mul (.t 32) (.t 34), some (31, true)⟩,
  ⟨some 36, .mov (.t 1), some (31, true)⟩,
  ⟨some 37, .fld 0 (.t 3), some (31, true)⟩,
  ⟨some 38, .load none (.t 37), some (31, true)⟩,
  ⟨some 39, .bin .mul (.t 36) (.t 38), some (31, true)⟩,
  ⟨some 40, .bin .leq (.t 35) (.t 39), some (31, true)⟩,
  ⟨some 41, .pick (.t 31) (.t 40) (.c (.bool false)), none⟩,
  ⟨some 6, .mov (.t 41), none⟩]
def b24 : ICode :=
 (.seq (.reg [(0, false), (1, false)] r24_0)
 (.seq (.seq (.reg [(0, false), (1, false), (2, false), (3, false), (4, false), (5, false), (6, false), (7, false), (8, false), (9, false), (10, false), (11, false), (12, false), (13, false), (14, false)] r24_1)
 (.cond (.t 21) (.seq (.reg [(0, false)] r24_2)
 .ret)
 .skip))
 (.seq (.reg [(0, false), (1, false), (2, false), (3, false), (4, false), (5, false), (6, false), (7, false), (8, false), (9, false), (10, false), (11, false), (12, false), (13, false), (14, false), (15, false), (16, false), (17, false), (18, false), (19, false), (20, false)] r24_3)
 .ret)))
def f24 : IFunc := { nt := 42, res := [((.t 6), none)], body := b24 }
def ps24 : List Phases := []
def ms24 : List (Option (List Nat)) := [none]
-- chatelaine/chatelainelaw21.awake
def r25_0 : List IOper := [⟨some 0, .mov (.c (.bool false)), none⟩]
def r25_1 : List IOper := [⟨some 2, .build [(.int .i64 0), (.int .i64 0)] [(0, 1, (.c (.int .i64 2))), (1, 1, (.c (.int .i64 10)))], none⟩,
  ⟨some 3, .callF 28 [(.t 2), (.c (.int .i64 2))], none⟩,
  ⟨some 1, .mov (.t 3), none⟩]
def r25_2 : List IOper := [⟨some 4, .mov (.t 1), none⟩,
  ⟨some 5, .eqn 1 true (.t 4) (.c .nilp), none⟩,
  ⟨some 6, .mov (.t 5), none⟩,
  ⟨some 7, .mov (.t 1), some (6, true)⟩,
  ⟨some 8, .callF 30 [(.t 7), (.c (.int .i64 1)), (.c (.int .i64 5))], some (6, true)⟩,
  ⟨some 9, .pick (.t 6) (.t 8) (.c (.bool false)), none⟩,
  ⟨some 10, .mov (.t 9), none⟩,
  ⟨some 11, .mov (.t 1), some (10, true)⟩,
  ⟨some 12, .callF 30 [(.t 11), (.c (.int .i64 1)), (.c (.int .i64 9))], some (10, true)⟩,
  ⟨some 13, .pick (.t 10) (.t 12) (.c (.bool false)), none⟩,
  ⟨some 14, .mov (.t 13), none⟩,
  ⟨some 15, .mov (.t 1), some (14, true)⟩,
  ⟨some 16, .callF 33 [(.t 15), (.c (.int .i64 1)), (.c (.int .i64 9))], some (14, true)⟩,
  ⟨some 17, .pick (.t 14) (.t 16) (.c (.bool false)), none⟩,
  ⟨some 18, .mov (.t 17), none⟩,
  ⟨some 19, .mov (.t 1), some (18, true)⟩,
  ⟨some 20, .callF 33 [(.t 19), (.c (.int .i64 1)), (.c (.int .i64 15))], some (18, true)⟩,
  ⟨some 21, .un .not (.t 20), some (18, true)⟩,
  ⟨some 22, .pick (.t 18) (.t 21) (.c (.bool false)), none⟩,
  ⟨some 23, .mov (.t 22), none⟩,
  ⟨some 24, .mov (.t 1), some (23, true)⟩,
  ⟨some 25, .callF 32 [(.t 24), (.c (.int .i64 1)), (.c (.int .i64 14))], some (23, true)⟩,
  ⟨some 26, .bin .eql (.t 25) (.c (.int .i64 2)), some (23, true)⟩,
  ⟨some 27, .pick (.t 23) (.t 26) (.c (.bool false)), none⟩,
  ⟨some 0, .mov (.t 27), none⟩]
def b25 : ICode :=
 (.seq (.reg [(0, false)] r25_0)
 (.seq (.reg [(0, false), (1, false), (2, false)] r25_1)
 (.seq (.reg [(0, false), (1, false), (2, false), (3, false), (4, false), (5, false), (6, false), (7, false), (8, false), (9, false), (10, false), (11, false), (12, false), (13, false), (14, false), (15, false), (16, false), (17, false), (18, false), (19, false), (20, false), (21, false), (22, false), (23, false), (24, false)] r25_2)
 .ret)))
def f25 : IFunc := { nt := 28, res := [((.t 0), none)], body := b25 }
def ps25 : List Phases := []
def ms25 : List (Option (List Nat)) := []
-- (chatelaine/steal.Policy).Check
def r26_0 : List IOper := [⟨some 1, .box 2 (.t 0), none⟩,
  ⟨some 2, .mov (.c (.int .i64 0)), none⟩]
def r26_1 : List IOper := [⟨some 3, .fld 0 (.t 1), none⟩,
  ⟨some 4, .load none (.t 3), none⟩,
  ⟨some 5, .bin .lss (.t 4) (.c (.int .i64 1)), none⟩,
  ⟨some 6, .mov (.t 5), none⟩,
  ⟨some 7, .fld 0 (.t 1), some (6, false)⟩,
  ⟨some 8, .load none (.t 7), some (6, false)⟩,
  ⟨some 9, .bin .gtr (.t 8) (.c (.int .i64 64)), some (6, false)⟩,
  ⟨some 10, .pick (.t 6) (.c (.bool true)) (.t 9), none⟩,
  ⟨some 11, .mov (.t 10), none⟩,
  ⟨some 12, .fld 1 (.t 1), some (11, false)⟩,
  ⟨some 13, .load none (.t 12), some (11, false)⟩,
  ⟨some 14, .bin .lss (.t 13) (.c (.int .i64 1)), some (11, false)⟩,
  ⟨some 15, .pick (.t 11) (.c (.bool true)) (.t 14), none⟩,
  ⟨some 16, .mov (.t 15), none⟩,
  ⟨some 17, .fld 1 (.t 1), some (16, false)⟩,
  ⟨some 18, .load none (.t 17), some (16, false)⟩,
  ⟨some 19, .bin .gtr (.t 18) (.c (.int .i64 65536)), some (16, false)⟩,
  ⟨some 20, .pick (.t 16) (.c (.bool true)) (.t 19), none⟩]
def r26_2 : List IOper := [⟨some 2, .mov (.c (.int .i64 12)), none⟩]
def r26_3 : List IOper := [⟨some 2, .mov (.c (.int .i64 0)), none⟩]
def b26 : ICode :=
 (.seq (.reg [(0, false), (1, false)] r26_0)
 (.seq (.seq (.reg [(0, false), (1, false), (2, false), (3, false), (4, false), (5, false), (6, false), (7, false), (8, false), (9, false), (10, false), (11, false), (12, false), (13, false), (14, false), (15, false), (16, false), (17, false)] r26_1)
 (.cond (.t 20) (.seq (.reg [(0, false)] r26_2)
 .ret)
 .skip))
 (.seq (.reg [(0, false)] r26_3)
 .ret)))
def f26 : IFunc := { nt := 21, res := [((.t 2), none)], body := b26 }
def ps26 : List Phases := []
def ms26 : List (Option (List Nat)) := [none]
-- chatelaine/chatelainelaw21.right
def r27_0 : List IOper := [⟨some 4, .alloc [(.int .i64 0), (.int .i64 0)], none⟩]
def r27_1 : List IOper := [⟨some 5, .mov (.t 0), none⟩,
  ⟨some 6, .bin .and (.t 5) (.c (.int .i64 255)), none⟩,
  ⟨some 7, .bin .rem (.t 6) (.c (.int .i64 64)), none⟩,
  ⟨some 8, .bin .add (.c (.int .i64 1)) (.t 7), none⟩,
  ⟨some 9, .mov (.t 1), none⟩,
  ⟨some 10, .bin .and (.t 9) (.c (.int .i64 1023)), none⟩,
  ⟨some 11, .bin .add (.c (.int .i64 1)) (.t 10), none⟩,
  ⟨some 12, .build [(.int .i64 0), (.int .i64 0)] [(0, 1, (.t 8)), (1, 1, (.t 11))], none⟩,
  ⟨none, .store 2 (.t 4) (.t 12), none⟩]
def b27 : ICode :=
 (.seq (.reg [(0, false)] r27_0)
 (.seq (.reg [(0, false), (1, false), (2, false), (3, false), (4, false), (5, false), (6, false), (7, false), (8, false)] r27_1)
 .ret))
def f27 : IFunc := { nt := 13, res := [((.t 4), some (some 2))], body := b27 }
def ps27 : List Phases := []
def ms27 : List (Option (List Nat)) := []
-- chatelaine/steal.New
def r28_0 : List IOper := [⟨some 2, .box 2 (.t 0), none⟩,
  ⟨some 4, .mov (.c .nilp), none⟩]
def r28_1 : List IOper := [⟨some 5, .load (some 2) (.t 2), none⟩,
  ⟨some 6, .mov (.t 1), none⟩,
  ⟨some 7, .mini [(.t 6), (.c (.int .i64 4))], none⟩,
  ⟨some 8, .maxi [(.c (.int .i64 0)), (.t 7)], none⟩,
  ⟨some 9, .mkS 65 520 [(.int .i64 0), (.int .i64 0), (.int .i64 0), (.int .i64 0), (.int .i64 0), (.int .i64 0), (.int .i64 0), (.int .i64 0), (.int .i64 0), (.int .i64 0), (.int .i64 0), (.int .i64 0), (.int .i64 0), (.int .i64 0), (.int .i64 0), (.int .i64 0), (.int .i64 0), (.int .i64 0), (.int .i64 0), (.int .i64 0), (.int .i64 0), (.int .i64 0), (.int .i64 0), (.int .i64 0), (.int .i64 0), (.int .i64 0), (.int .i64 0), (.int .i64 0), (.int .i64 0), (.int .i64 0), (.int .i64 0), (.int .i64 0), (.int .i64 0), (.int .i64 0), (.int .i64 0), (.int .i64 0), (.int .i64 0), (.int .i64 0), (.int .i64 0), (.int .i64 0), (.int .i64 0), (.int .i64 0), (.int .i64 0), (.int .i64 0), (.int .i64 0), (.int .i64 0), (.int .i64 0), (.int .i64 0), (.int .i64 0), (.int .i64 0), (.int .i64 0), (.int .i64 0), (.int .i64 0), (.int .i64 0), (.int .i64 0), (.int .i64 0), (.int .i64 0), (.int .i64 0), (.int .i64 0), (.int .i64 0), (.int .i64 0), (.int .i64 0), (.int .i64 0), (.int .i64 0), (.int .i64 0)] (.t 8) (.t 8), none⟩,
  ⟨some 10, .build [(.int .i64 0), (.int .i64 0), .nils] [(0, 2, (.t 5)), (2, 1, (.t 9))], none⟩,
  ⟨some 11, .box 3 (.t 10), none⟩,
  ⟨some 4, .mov (.t 11), none⟩]
def b28 : ICode :=
 (.seq (.reg [(0, false), (1, false)] r28_0)
 (.seq (.reg [(0, false), (1, false), (2, false), (3, false), (4, false), (5, false), (6, false), (7, false)] r28_1)
 .ret))
def f28 : IFunc := { nt := 12, res := [((.t 4), none)], body := b28 }
def ps28 : List Phases := [⟨[], [(0, false), (1, false), (2, false), (3, false), (4, false), (5, false), (6, false), (7, false)]⟩]
def ms28 : List (Option (List Nat)) := []
-- (*chatelaine/steal.Board).Reset
def r29_0 : List IOper := [⟨some 2, .mov (.t 0), none⟩,
  ⟨some 3, .nilck (.t 2), none⟩,
  ⟨some 4, .fld 2 (.t 3), none⟩,
  ⟨some 5, .load none (.t 4), none⟩,
  ⟨none, .clr 65 [(.int .i64 0), (.int .i64 0), (.int .i64 0), (.int .i64 0), (.int .i64 0), (.int .i64 0), (.int .i64 0), (.int .i64 0), (.int .i64 0), (.int .i64 0), (.int .i64 0), (.int .i64 0), (.int .i64 0), (.int .i64 0), (.int .i64 0), (.int .i64 0), (.int .i64 0), (.int .i64 0), (.int .i64 0), (.int .i64 0), (.int .i64 0), (.int .i64 0), (.int .i64 0), (.int .i64 0), (.int .i64 0), (.int .i64 0), (.int .i64 0), (.int .i64 0), (.int .i64 0), (.int .i64 0), (.int .i64 0), (.int .i64 0), (.int .i64 0), (.int .i64 0), (.int .i64 0), (.int .i64 0), (.int .i64 0), (.int .i64 0), (.int .i64 0), (.int .i64 0), (.int .i64 0), (.int .i64 0), (.int .i64 0), (.int .i64 0), (.int .i64 0), (.int .i64 0), (.int .i64 0), (.int .i64 0), (.int .i64 0), (.int .i64 0), (.int .i64 0), (.int .i64 0), (.int .i64 0), (.int .i64 0), (.int .i64 0), (.int .i64 0), (.int .i64 0), (.int .i64 0), (.int .i64 0), (.int .i64 0), (.int .i64 0), (.int .i64 0), (.int .i64 0), (.int .i64 0), (.int .i64 0)] (.t 5), none⟩]
def b29 : ICode :=
 (.reg [(0, false), (1, false), (2, false), (3, false), (4, false)] r29_0)
def f29 : IFunc := { nt := 6, res := [], body := b29 }
def ps29 : List Phases := []
def ms29 : List (Option (List Nat)) := []
-- (*chatelaine/steal.Board).Touch
def r30_0 : List IOper := [⟨some 6, .mov (.c (.bool false)), none⟩]
def r30_1 : List IOper := [⟨some 7, .mov (.t 0), none⟩,
  ⟨some 8, .mov (.t 1), none⟩,
  ⟨some 9, .callF 46 [(.t 7), (.t 8)], none⟩,
  ⟨some 10, .un .not (.t 9), none⟩]
def r30_2 : List IOper := [⟨some 6, .mov (.c (.bool false)), none⟩]
def r30_3 : List IOper := [⟨some 11, .mov (.t 0), none⟩,
  ⟨some 12, .nilck (.t 11), none⟩,
  ⟨some 13, .fld 2 (.t 12), none⟩,
  ⟨some 14, .load none (.t 13), none⟩,
  ⟨some 15, .mov (.t 1), none⟩,
  ⟨some 16, .ixS 65 (.t 14) (.t 15), none⟩,
  ⟨some 17, .mov (.t 2), none⟩,
  ⟨some 18, .callF 47 [(.t 16), (.t 17)], none⟩]
def r30_4 : List IOper := [⟨some 6, .mov (.c (.bool true)), none⟩]
def b30 : ICode :=
 (.seq (.reg [(0, false)] r30_0)
 (.seq (.seq (.reg [(0, false), (1, false), (2, false), (3, false)] r30_1)
 (.cond (.t 10) (.seq (.reg [(0, false)] r30_2)
 .ret)
 .skip))
 (.seq (.reg [(0, false), (1, false), (2, false), (3, false), (4, false), (5, false), (6, false), (7, false)] r30_3)
 (.seq (.reg [(0, false)] r30_4)
 .ret))))
def f30 : IFunc := { nt := 19, res := [((.t 6), none)], body := b30 }
def ps30 : List Phases := []
def ms30 : List (Option (List Nat)) := [none]
-- chatelaine/chatelainelaw21.count
def r31_0 : List IOper := [⟨some 8, .mov (.c (.int .i64 0)), none⟩]
def r31_1 : List IOper := [⟨some 9, .mov (.c (.int .i64 0)), none⟩,
  ⟨some 10, .mov (.c (.int .i64 0)), none⟩]
def r31_2 : List IOper := [⟨some 12, .mov (.t 0), none⟩,
  ⟨some 13, .lenL (.t 12), none⟩,
  ⟨some 14, .bin .sub (.t 13) (.c (.int .i64 1)), none⟩,
  ⟨some 11, .mov (.t 14), none⟩]
def r31_3 : List IOper := [⟨some 15, .mov (.t 11), none⟩,
  ⟨some 16, .bin .geq (.t 15) (.c (.int .i64 0)), none⟩,
  ⟨some 17, .mov (.t 16), none⟩,
  ⟨some 18, .mov (.t 10), some (17, true)⟩,
  ⟨some 19, .bin .lss (.t 18) (.c (.int .i64 64)), some (17, true)⟩,
  ⟨some 20, .pick (.t 17) (.t 19) (.c (.bool false)), none⟩]
def r31_4 : List IOper := [⟨some 23, .mov (.t 0), none⟩,
  ⟨some 24, .mov (.t 11), none⟩,
  ⟨some 25, .ixS 3 (.t 23) (.t 24), none⟩,
  ⟨some 26, .fld 1 (.t 25), none⟩,
  ⟨some 27, .load none (.t 26), none⟩,
  ⟨some 28, .mov (.t 1), none⟩,
  ⟨some 29, .bin .neq (.t 27) (.t 28), none⟩]
def r31_5 : List IOper := [⟨some 30, .mov (.t 10), none⟩,
  ⟨some 31, .bin .add (.t 30) (.c (.int .i64 1)), none⟩,
  ⟨some 10, .mov (.t 31), none⟩]
def r31_6 : List IOper := [⟨some 32, .mov (.t 0), none⟩,
  ⟨some 33, .mov (.t 11), none⟩,
  ⟨some 34, .ixS 3 (.t 32) (.t 33), none⟩,
  ⟨some 35, .fld 2 (.t 34), none⟩,
  ⟨some 36, .load none (.t 35), none⟩,
  ⟨some 37, .mov (.t 2), none⟩,
  ⟨some 38, .bin .leq (.t 36) (.t 37), none⟩,
  ⟨some 39, .mov (.t 38), none⟩,
  ⟨some 40, .mov (.t 0), some (39, true)⟩,
  ⟨some 41, .mov (.t 11), some (39, true)⟩,
  ⟨some 42, .ixS 3 (.t 40) (.t 41), some (39, true)⟩,
  ⟨some 43, .fld 2 (.t 42), some (39, true)⟩,
  ⟨some 44, .load none (.t 43), some (39, true)⟩,
  ⟨some 45, .mov (.t 2), some (39, true)⟩,
  ⟨some 46, .mov (.t 3), some (39, true)⟩,
  ⟨some 47, .bin .sub (.t 45) (.t 46), some (39, true)⟩,
  ⟨some 48, .bin .gtr (.t 44) (.t 47), some (39, true)⟩,
  ⟨some 49, .pick (.t 39) (.t 48) (.c (.bool false)), none⟩]
def r31_7 : List IOper := [⟨some 50, .mov (.t 9), none⟩,
  ⟨some 51, .bin .add (.t 50) (.c (.int .i64 1)), none⟩,
  ⟨some 9, .mov (.t 51), none⟩]
def r31_8 : List IOper := [⟨some 21, .mov (.t 11), none⟩,
  ⟨some 22, .bin .sub (.t 21) (.c (.int .i64 1)), none⟩,
  ⟨some 11, .mov (.t 22), none⟩]
def r31_9 : List IOper := [⟨some 52, .mov (.t 9), none⟩,
  ⟨some 8, .mov (.t 52), none⟩]
def b31 : ICode :=
 (.seq (.reg [(0, false)] r31_0)
 (.seq (.reg [(0, false), (1, false)] r31_1)
 (.seq (.seq (.reg [(0, false), (1, false), (2, false), (3, false)] r31_2)
 (.seq (.block 0 (.loop (.seq (.mask [0, 1, 2, 3, 9, 10, 11]) (.seq (.seq (.reg [(0, false), (1, false), (2, false), (3, false), (4, false), (5, false)] r31_3)
 (.cond (.t 20) .skip
 (.exit 0)))
 (.seq (.seq (.block 1 (.seq (.seq (.reg [(0, false), (1, false), (2, false), (3, false), (4, false), (5, false), (6, false)] r31_4)
 (.cond (.t 29) (.exit 1)
 .skip))
 (.seq (.reg [(0, false), (1, false), (2, false)] r31_5)
 (.seq (.reg [(0, false), (1, false), (2, false), (3, false), (4, false), (5, false), (6, false), (7, false), (8, false), (9, false), (10, false), (11, false), (12, false), (13, false), (14, false), (15, false), (16, false), (17, false)] r31_6)
 (.seq (.cond (.t 49) (.reg [(0, false), (1, false), (2, false)] r31_7)
 .skip) (.mask [0, 1, 2, 3, 9, 10, 11])))))) (.mask [0, 1, 2, 3, 9, 10, 11]))
 (.reg [(0, false), (1, false), (2, false)] r31_8)))))) (.mask [9])))
 (.seq (.reg [(0, false), (1, false)] r31_9)
 .ret))))
def f31 : IFunc := { nt := 53, res := [((.t 8), none)], body := b31 }
def ps31 : List Phases := []
def ms31 : List (Option (List Nat)) := [some [0, 1, 2, 3, 9, 10, 11], none, none, some [0, 1, 2, 3, 9, 10, 11], some [0, 1, 2, 3, 9, 10, 11], some [9]]
-- (*chatelaine/steal.Board).Count
def r32_0 : List IOper := [⟨some 6, .mov (.c (.int .i64 0)), none⟩]
def r32_1 : List IOper := [⟨some 7, .mov (.t 0), none⟩,
  ⟨some 8, .mov (.t 1), none⟩,
  ⟨some 9, .callF 46 [(.t 7), (.t 8)], none⟩,
  ⟨some 10, .un .not (.t 9), none⟩]
def r32_2 : List IOper := [⟨some 6, .mov (.c (.int .i64 0)), none⟩]
def r32_3 : List IOper := [⟨some 11, .mov (.t 0), none⟩,
  ⟨some 12, .nilck (.t 11), none⟩,
  ⟨some 13, .fld 2 (.t 12), none⟩,
  ⟨some 14, .load none (.t 13), none⟩,
  ⟨some 15, .mov (.t 1), none⟩,
  ⟨some 16, .ixS 65 (.t 14) (.t 15), none⟩,
  ⟨some 17, .mov (.t 2), none⟩,
  ⟨some 18, .mov (.t 0), none⟩,
  ⟨some 19, .nilck (.t 18), none⟩,
  ⟨some 20, .fld 0 (.t 19), none⟩,
  ⟨some 21, .fld 1 (.t 20), none⟩,
  ⟨some 22, .load none (.t 21), none⟩,
  ⟨some 23, .callF 48 [(.t 16), (.t 17), (.t 22)], none⟩,
  ⟨some 6, .mov (.t 23), none⟩]
def b32 : ICode :=
 (.seq (.reg [(0, false)] r32_0)
 (.seq (.seq (.reg [(0, false), (1, false), (2, false), (3, false)] r32_1)
 (.cond (.t 10) (.seq (.reg [(0, false)] r32_2)
 .ret)
 .skip))
 (.seq (.reg [(0, false), (1, false), (2, false), (3, false), (4, false), (5, false), (6, false), (7, false), (8, false), (9, false), (10, false), (11, false), (12, false), (13, false)] r32_3)
 .ret)))
def f32 : IFunc := { nt := 24, res := [((.t 6), none)], body := b32 }
def ps32 : List Phases := [⟨[([(0, false), (1, false), (2, false), (3, false), (4, false), (5, false), (6, false), (7, false), (8, false), (9, false), (10, false), (11, false)], 12)], [(13, false)]⟩]
def ms32 : List (Option (List Nat)) := [none]
-- (*chatelaine/steal.Board).Wants
def r33_0 : List IOper := [⟨some 6, .mov (.c (.bool false)), none⟩]
def r33_1 : List IOper := [⟨some 7, .mov (.t 0), none⟩,
  ⟨some 8, .mov (.t 1), none⟩,
  ⟨some 9, .callF 46 [(.t 7), (.t 8)], none⟩,
  ⟨some 10, .mov (.t 9), none⟩,
  ⟨some 11, .mov (.t 0), some (10, true)⟩,
  ⟨some 12, .mov (.t 1), some (10, true)⟩,
  ⟨some 13, .mov (.t 2), some (10, true)⟩,
  ⟨some 14, .callF 32 [(.t 11), (.t 12), (.t 13)], some (10, true)⟩,
  ⟨some 15, .mov (.t 0), some (10, true)⟩,
  ⟨some 16, .nilck (.t 15), some (10, true)⟩,
  ⟨some 17, .fld 0 (.t 16), some (10, true)⟩,
  ⟨some 18, .fld 0 (.t 17), some (10, true)⟩,
  ⟨some 19, .load none (.t 18), some (10, true)⟩,
  ⟨some 20, .bin .geq (.t 14) (.t 19), some (10, true)⟩,
  ⟨some 21, .pick (.t 10) (.t 20) (.c (.bool false)), none⟩,
  ⟨some 6, .mov (.t 21), none⟩]
def b33 : ICode :=
 (.seq (.reg [(0, false)] r33_0)
 (.seq (.reg [(0, false), (1, false), (2, false), (3, false), (4, false), (5, false), (6, false), (8, false), (9, false), (10, false), (11, false), (12, false), (7, false), (12, true), (13, false), (14, false), (15, false)] r33_1)
 .ret))
def f33 : IFunc := { nt := 22, res := [((.t 6), none)], body := b33 }
def ps33 : List Phases := [⟨[([(0, false), (1, false)], 2), ([(3, false), (4, false), (5, false), (6, false), (8, false), (9, false), (10, false), (11, false), (12, false)], 7)], [(12, true), (13, false), (14, false), (15, false)]⟩]
def ms33 : List (Option (List Nat)) := []
-- (*chatelaine/steal.Board).Busiest
def r34_0 : List IOper := [⟨some 4, .mov (.c (.int .i64 0)), none⟩,
  ⟨some 5, .mov (.c (.int .i64 0)), none⟩]
def r34_1 : List IOper := [⟨some 6, .mov (.c (.int .i64 (-1))), none⟩,
  ⟨some 7, .mov (.c (.int .i64 0)), none⟩]
def r34_2 : List IOper := [⟨some 10, .mov (.t 0), none⟩,
  ⟨some 11, .nilck (.t 10), none⟩,
  ⟨some 12, .fld 2 (.t 11), none⟩,
  ⟨some 13, .load none (.t 12), none⟩,
  ⟨some 14, .lenL (.t 13), none⟩,
  ⟨some 15, .mov (.c (.int .i64 0)), none⟩]
def r34_3 : List IOper := [⟨some 16, .bin .lss (.t 15) (.t 14), none⟩]
def r34_4 : List IOper := [⟨some 17, .mov (.t 15), none⟩,
  ⟨some 8, .mov (.t 17), none⟩]
def r34_5 : List IOper := [⟨some 18, .mov (.t 0), none⟩,
  ⟨some 19, .mov (.t 8), none⟩,
  ⟨some 20, .mov (.t 1), none⟩,
  ⟨some 21, .callF 32 [(.t 18), (.t 19), (.t 20)], none⟩,
  ⟨some 9, .mov (.t 21), none⟩]
def r34_6 : List IOper := [⟨some 22, .mov (.t 9), none⟩,
  ⟨some 23, .mov (.t 7), none⟩,
  ⟨some 24, .bin .gtr (.t 22) (.t 23), none⟩]
def r34_7 : List IOper := [⟨some 25, .mov (.t 8), none⟩,
  ⟨some 26, .mov (.t 9), none⟩,
  ⟨some 6, .mov (.t 25), none⟩,
  ⟨some 7, .mov (.t 26), none⟩]
def r34_8 : List IOper := [⟨some 27, .bin .add (.t 15) (.c (.int .i64 1)), none⟩,
  ⟨some 15, .mov (.t 27), none⟩]
def r34_9 : List IOper := [⟨some 28, .mov (.t 6), none⟩,
  ⟨some 29, .mov (.t 7), none⟩,
  ⟨some 4, .mov (.t 28), none⟩,
  ⟨some 5, .mov (.t 29), none⟩]
def b34 : ICode :=
 (.seq (.reg [(0, false), (1, false)] r34_0)
 (.seq (.reg [(0, false), (1, false)] r34_1)
 (.seq (.seq (.reg [(0, false), (1, false), (2, false), (3, false), (4, false), (5, false)] r34_2)
 (.seq (.block 0 (.loop (.seq (.mask [0, 1, 6, 7, 14, 15]) (.seq (.reg [(0, false)] r34_3)
 (.seq (.cond (.t 16) .skip
 (.exit 0))
 (.seq (.seq (.block 1 (.seq (.reg [(0, false), (1, false)] r34_4)
 (.seq (.reg [(0, false), (1, false), (2, false), (3, false), (4, false)] r34_5)
 (.seq (.reg [(0, false), (1, false), (2, false)] r34_6)
 (.seq (.cond (.t 24) (.reg [(0, false), (1, false), (2, false), (3, false)] r34_7)
 .skip) (.mask [0, 1, 6, 7, 14, 15])))))) (.mask [0, 1, 6, 7, 14, 15]))
 (.reg [(0, false), (1, false)] r34_8))))))) (.mask [6, 7])))
 (.seq (.reg [(0, false), (1, false), (2, false), (3, false)] r34_9)
 .ret))))
def f34 : IFunc := { nt := 30, res := [((.t 4), none), ((.t 5), none)], body := b34 }
def ps34 : List Phases := []
def ms34 : List (Option (List Nat)) := [some [0, 1, 6, 7, 14, 15], none, some [0, 1, 6, 7, 14, 15], some [0, 1, 6, 7, 14, 15], some [6, 7]]
-- (*chatelaine/steal.Board).Gives
def r35_0 : List IOper := [⟨some 6, .mov (.c (.int .i64 0)), none⟩,
  ⟨some 7, .mov (.c (.bool false)), none⟩]
def r35_1 : List IOper := [⟨some 11, .mov (.t 0), none⟩,
  ⟨some 12, .mov (.t 2), none⟩,
  ⟨some 13, .callF 34 [(.t 11), (.t 12)], none⟩,
  ⟨some 10, .mov (.t 13), none⟩,
  ⟨some 14, .ext (.t 10) 0, none⟩,
  ⟨some 15, .ext (.t 10) 1, none⟩,
  ⟨some 8, .mov (.t 14), none⟩,
  ⟨some 9, .mov (.t 15), none⟩]
def r35_2 : List IOper := [⟨some 16, .mov (.t 8), none⟩,
  ⟨some 17, .bin .lss (.t 16) (.c (.int .i64 0)), none⟩,
  ⟨some 18, .mov (.t 17), none⟩,
  ⟨some 19, .mov (.t 8), some (18, false)⟩,
  ⟨some 20, .mov (.t 1), some (18, false)⟩,
  ⟨some 21, .bin .eql (.t 19) (.t 20), some (18, false)⟩,
  ⟨some 22, .pick (.t 18) (.c (.bool true)) (.t 21), none⟩,
  ⟨some 23, .mov (.t 22), none⟩,
  ⟨some 24, .mov (.t 9), some (23, false)⟩,
  ⟨some 25, .mov (.t 0), some (23, false)⟩,
  ⟨some 26, .nilck (.t 25), some (23, false)⟩,
  ⟨some 27, .fld 0 (.t 26), some (23, false)⟩,
  ⟨some 28, .fld 0 (.t 27), some (23, false)⟩,
  ⟨some 29, .load none (.t 28), some (23, false)⟩,
  ⟨some 30, .bin .lss (.t 24) (.t 29), some (23, false)⟩,
  ⟨some 31, .pick (.t 23) (.c (.bool true)) (.t 30), none⟩,
  ⟨some 32, .mov (.t 31), none⟩,
  ⟨some 33, .mov (.t 9), some (32, false)⟩,
  ⟨some 34, .mov (.t 0), some (32, false)⟩,
  ⟨some 35, .mov (.t 1), some (32, false)⟩,
  ⟨some 36, .mov (.t 2), some (32, false)⟩,
  ⟨some 37, .callF 32 [(.t 34), (.t 35), (.t 36)], some (32, false)⟩,
  ⟨some 38, .bin .leq (.t 33) (.t 37), some (32, false)⟩,
  ⟨some 39, .pick (.t 32) (.c (.bool true)) (.t 38), none⟩]
def r35_3 : List IOper := [⟨some 6, .mov (.c (.int .i64 0)), none⟩,
  ⟨some 7, .mov (.c (.bool false)), none⟩]
def r35_4 : List IOper := [⟨some 40, .mov (.t 8), none⟩,
  ⟨some 6, .mov (.t 40), none⟩,
  ⟨some 7, .mov (.c (.bool true)), none⟩]
def b35 : ICode :=
 (.seq (.reg [(0, false), (1, false)] r35_0)
 (.seq (.reg [(0, false), (1, false), (2, false), (3, false), (4, false), (5, false), (6, false), (7, false)] r35_1)
 (.seq (.seq (.reg [(0, false), (1, false), (2, false), (3, false), (4, false), (5, false), (6, false), (7, false), (8, false), (9, false), (10, false), (11, false), (12, false), (13, false), (14, false), (15, false), (16, false), (17, false), (18, false), (19, false), (20, false), (21, false), (22, false), (23, false)] r35_2)
 (.cond (.t 39) (.seq (.reg [(0, false), (1, false)] r35_3)
 .ret)
 .skip))
 (.seq (.reg [(0, false), (1, false), (2, false)] r35_4)
 .ret))))
def f35 : IFunc := { nt := 41, res := [((.t 6), none), ((.t 7), none)], body := b35 }
def ps35 : List Phases := []
def ms35 : List (Option (List Nat)) := [none]
-- chatelaine/ballot.Next
def r38_0 : List IOper := [⟨some 2, .box 2 (.t 0), none⟩,
  ⟨some 4, .alloc [(.int .u64 0), (.int .i64 0)], none⟩,
  ⟨some 5, .mov (.c (.int .i64 0)), none⟩]
def r38_1 : List IOper := [⟨some 7, .mov (.t 1), none⟩,
  ⟨some 8, .bin .lss (.t 7) (.c (.int .i64 0)), none⟩,
  ⟨some 9, .mov (.t 8), none⟩,
  ⟨some 10, .mov (.t 1), some (9, false)⟩,
  ⟨some 11, .bin .geq (.t 10) (.c (.int .i64 12)), some (9, false)⟩,
  ⟨some 12, .pick (.t 9) (.c (.bool true)) (.t 11), none⟩,
  ⟨some 6, .mov (.t 12), none⟩]
def r38_2 : List IOper := [⟨some 13, .build [(.int .u64 0), (.int .i64 0)] [], none⟩,
  ⟨none, .store 2 (.t 4) (.t 13), none⟩,
  ⟨some 5, .mov (.c (.int .i64 2)), none⟩]
def r38_3 : List IOper := [⟨some 15, .fld 0 (.t 2), none⟩,
  ⟨some 16, .load none (.t 15), none⟩,
  ⟨some 17, .bin .gtr (.t 16) (.c (.int .u64 0)), none⟩,
  ⟨some 18, .mov (.t 17), none⟩,
  ⟨some 19, .mov (.t 1), some (18, true)⟩,
  ⟨some 20, .fld 1 (.t 2), some (18, true)⟩,
  ⟨some 21, .load none (.t 20), some (18, true)⟩,
  ⟨some 22, .bin .gtr (.t 19) (.t 21), some (18, true)⟩,
  ⟨some 23, .pick (.t 18) (.t 22) (.c (.bool false)), none⟩,
  ⟨some 14, .mov (.t 23), none⟩]
def r38_4 : List IOper := [⟨some 24, .fld 0 (.t 2), none⟩,
  ⟨some 25, .load none (.t 24), none⟩,
  ⟨some 26, .mov (.t 1), none⟩,
  ⟨some 27, .build [(.int .u64 0), (.int .i64 0)] [(0, 1, (.t 25)), (1, 1, (.t 26))], none⟩,
  ⟨none, .store 2 (.t 4) (.t 27), none⟩,
  ⟨some 5, .mov (.c (.int .i64 0)), none⟩]
def r38_5 : List IOper := [⟨some 29, .fld 0 (.t 2), none⟩,
  ⟨some 30, .load none (.t 29), none⟩,
  ⟨some 31, .bin .eql (.t 30) (.c (.int .u64 18446744073709551615)), none⟩,
  ⟨some 28, .mov (.t 31), none⟩]
def r38_6 : List IOper := [⟨some 32, .build [(.int .u64 0), (.int .i64 0)] [], none⟩,
  ⟨none, .store 2 (.t 4) (.t 32), none⟩,
  ⟨some 5, .mov (.c (.int .i64 19)), none⟩]
def r38_7 : List IOper := [⟨some 33, .fld 0 (.t 2), none⟩,
  ⟨some 34, .load none (.t 33), none⟩,
  ⟨some 35, .bin .add (.t 34) (.c (.int .u64 1)), none⟩,
  ⟨some 36, .mov (.t 1), none⟩,
  ⟨some 37, .build [(.int .u64 0), (.int .i64 0)] [(0, 1, (.t 35)), (1, 1, (.t 36))], none⟩,
  ⟨none, .store 2 (.t 4) (.t 37), none⟩,
  ⟨some 5, .mov (.c (.int .i64 0)), none⟩]
def b38 : ICode :=
 (.seq (.reg [(0, false), (1, false), (2, false)] r38_0)
 (.seq (.seq (.block 0 (.seq (.reg [(0, false), (1, false), (2, false), (3, false), (4, false), (5, false), (6, false)] r38_1)
 (.cond (.t 6) (.seq (.reg [(0, false), (1, false), (2, false)] r38_2)
 .ret)
 (.seq (.reg [(0, false), (1, false), (2, false), (3, false), (4, false), (5, false), (6, false), (7, false), (8, false), (9, false)] r38_3)
 (.cond (.t 14) (.seq (.reg [(0, false), (1, false), (2, false), (3, false), (4, false), (5, false)] r38_4)
 .ret)
 (.seq (.reg [(0, false), (1, false), (2, false), (3, false)] r38_5)
 (.cond (.t 28) (.seq (.reg [(0, false), (1, false), (2, false)] r38_6)
 .ret)
 .skip))))))) (.mask [1, 2, 4]))
 (.seq (.reg [(0, false), (1, false), (2, false), (3, false), (4, false), (5, false), (6, false)] r38_7)
 .ret)))
def f38 : IFunc := { nt := 38, res := [((.t 4), some (some 2)), ((.t 5), none)], body := b38 }
def ps38 : List Phases := []
def ms38 : List (Option (List Nat)) := [none, none, none, some [1, 2, 4]]
-- chatelaine/ballot.Compare
def r40_0 : List IOper := [⟨some 2, .box 2 (.t 0), none⟩,
  ⟨some 3, .box 2 (.t 1), none⟩,
  ⟨some 4, .mov (.c (.int .i64 0)), none⟩]
def r40_1 : List IOper := [⟨some 5, .fld 0 (.t 2), none⟩,
  ⟨some 6, .load none (.t 5), none⟩,
  ⟨some 7, .fld 0 (.t 3), none⟩,
  ⟨some 8, .load none (.t 7), none⟩,
  ⟨some 9, .callF 50 [(.t 6), (.t 8)], none⟩,
  ⟨some 10, .fld 1 (.t 2), none⟩,
  ⟨some 11, .load none (.t 10), none⟩,
  ⟨some 12, .fld 1 (.t 3), none⟩,
  ⟨some 13, .load none (.t 12), none⟩,
  ⟨some 14, .callF 51 [(.t 11), (.t 13)], none⟩,
  ⟨some 15, .buildS 1 2 [(.int .i64 0)] [(0, (.t 9)), (1, (.t 14))], none⟩,
  ⟨some 16, .callF 49 [(.t 15)], none⟩,
  ⟨some 4, .mov (.t 16), none⟩]
def b40 : ICode :=
 (.seq (.reg [(0, false), (1, false), (2, false)] r40_0)
 (.seq (.reg [(0, false), (1, false), (2, false), (3, false), (5, false), (6, false), (7, false), (8, false), (4, false), (6, true), (8, true), (9, false), (10, false), (11, false), (12, false)] r40_1)
 .ret))
def f40 : IFunc := { nt := 17, res := [((.t 4), none)], body := b40 }
def ps40 : List Phases := [⟨[([(0, false), (1, false), (2, false), (3, false), (5, false), (6, false), (7, false), (8, false)], 4), ([(6, true), (8, true)], 9), ([(10, false)], 11)], [(12, false)]⟩]
def ms40 : List (Option (List Nat)) := []
-- chatelaine/ballot.Max
def r43_0 : List IOper := [⟨some 2, .alloc [(.int .u64 0), (.int .i64 0)], none⟩]
def r43_1 : List IOper := [⟨some 3, .alloc [(.int .u64 0), (.int .i64 0)], none⟩]
def r43_2 : List IOper := [⟨some 6, .mov (.t 0), none⟩,
  ⟨some 7, .lenL (.t 6), none⟩,
  ⟨some 8, .mov (.c (.int .i64 0)), none⟩]
def r43_3 : List IOper := [⟨some 9, .bin .lss (.t 8) (.t 7), none⟩]
def r43_4 : List IOper := [⟨some 10, .ixS 2 (.t 6) (.t 8), none⟩,
  ⟨some 11, .load (some 2) (.t 10), none⟩,
  ⟨some 5, .alloc [(.int .u64 0), (.int .i64 0)], none⟩,
  ⟨none, .store 2 (.t 5) (.t 11), none⟩]
def r43_5 : List IOper := [⟨some 12, .load (some 2) (.t 5), none⟩,
  ⟨some 13, .load (some 2) (.t 3), none⟩,
  ⟨some 14, .callF 40 [(.t 12), (.t 13)], none⟩,
  ⟨some 15, .bin .gtr (.t 14) (.c (.int .i64 0)), none⟩]
def r43_6 : List IOper := [⟨some 16, .load (some 2) (.t 5), none⟩,
  ⟨none, .store 2 (.t 3) (.t 16), none⟩]
def r43_7 : List IOper := [⟨some 17, .bin .add (.t 8) (.c (.int .i64 1)), none⟩,
  ⟨some 8, .mov (.t 17), none⟩]
def r43_8 : List IOper := [⟨some 18, .load (some 2) (.t 3), none⟩,
  ⟨none, .store 2 (.t 2) (.t 18), none⟩]
def b43 : ICode :=
 (.seq (.reg [(0, false)] r43_0)
 (.seq (.reg [(0, false)] r43_1)
 (.seq (.seq (.reg [(0, false), (1, false), (2, false)] r43_2)
 (.seq (.block 0 (.loop (.seq (.mask [2, 3, 6, 7, 8]) (.seq (.reg [(0, false)] r43_3)
 (.seq (.cond (.t 9) .skip
 (.exit 0))
 (.seq (.seq (.block 1 (.seq (.reg [(0, false), (1, false), (2, false), (3, false)] r43_4)
 (.seq (.reg [(0, false), (1, false), (2, false), (3, false)] r43_5)
 (.seq (.cond (.t 15) (.reg [(0, false), (1, false)] r43_6)
 .skip) (.mask [2, 3, 6, 7, 8]))))) (.mask [2, 3, 6, 7, 8]))
 (.reg [(0, false), (1, false)] r43_7))))))) (.mask [2, 3])))
 (.seq (.reg [(0, false), (1, false)] r43_8)
 .ret))))
def f43 : IFunc := { nt := 19, res := [((.t 2), some (some 2))], body := b43 }
def ps43 : List Phases := []
def ms43 : List (Option (List Nat)) := [some [2, 3, 6, 7, 8], none, some [2, 3, 6, 7, 8], some [2, 3, 6, 7, 8], some [2, 3]]
-- chatelaine/drift.within
def r44_0 : List IOper := [⟨some 2, .mov (.c (.int .i64 0)), none⟩]
def r44_1 : List IOper := [⟨some 3, .mov (.t 0), none⟩,
  ⟨some 4, .mini [(.t 3), (.c (.int .i64 1099511627776))], none⟩,
  ⟨some 5, .maxi [(.c (.int .i64 0)), (.t 4)], none⟩,
  ⟨some 2, .mov (.t 5), none⟩]
def b44 : ICode :=
 (.seq (.reg [(0, false)] r44_0)
 (.seq (.reg [(0, false), (1, false), (2, false), (3, false)] r44_1)
 .ret))
def f44 : IFunc := { nt := 6, res := [((.t 2), none)], body := b44 }
def ps44 : List Phases := []
def ms44 : List (Option (List Nat)) := []
-- (*chatelaine/steal.Board).has
def r46_0 : List IOper := [⟨some 4, .mov (.c (.bool false)), none⟩]
def r46_1 : List IOper := [⟨some 5, .mov (.t 1), none⟩,
  ⟨some 6, .bin .geq (.t 5) (.c (.int .i64 0)), none⟩,
  ⟨some 7, .mov (.t 6), none⟩,
  ⟨some 8, .mov (.t 1), some (7, true)⟩,
  ⟨some 9, .mov (.t 0), some (7, true)⟩,
  ⟨some 10, .nilck (.t 9), some (7, true)⟩,
  ⟨some 11, .fld 2 (.t 10), some (7, true)⟩,
  ⟨some 12, .load none (.t 11), some (7, true)⟩,
  ⟨some 13, .lenL (.t 12), some (7, true)⟩,
  ⟨some 14, .bin .lss (.t 8) (.t 13), some (7, true)⟩,
  ⟨some 15, .pick (.t 7) (.t 14) (.c (.bool false)), none⟩,
  ⟨some 4, .mov (.t 15), none⟩]
def b46 : ICode :=
 (.seq (.reg [(0, false)] r46_0)
 (.seq (.reg [(0, false), (1, false), (2, false), (3, false), (4, false), (5, false), (6, false), (7, false), (8, false), (9, false), (10, false), (11, false)] r46_1)
 .ret))
def f46 : IFunc := { nt := 16, res := [((.t 4), none)], body := b46 }
def ps46 : List Phases := []
def ms46 : List (Option (List Nat)) := []
-- (*chatelaine/steal.meter).touch
def r47_0 : List IOper := [⟨some 4, .mov (.t 0), none⟩,
  ⟨some 5, .mov (.t 0), none⟩,
  ⟨some 6, .nilck (.t 5), none⟩,
  ⟨some 7, .fld 64 (.t 6), none⟩,
  ⟨some 8, .load none (.t 7), none⟩,
  ⟨some 9, .bin .rem (.t 8) (.c (.int .i64 64)), none⟩,
  ⟨some 10, .mov (.t 1), none⟩,
  ⟨some 11, .nilck (.t 4), none⟩,
  ⟨some 12, .fld 0 (.t 11), none⟩,
  ⟨some 13, .ixA 64 1 (.t 12) (.t 9), none⟩,
  ⟨none, .store 1 (.t 13) (.t 10), none⟩]
def r47_1 : List IOper := [⟨some 14, .mov (.t 0), none⟩,
  ⟨some 15, .nilck (.t 14), none⟩,
  ⟨some 16, .fld 64 (.t 15), none⟩,
  ⟨some 17, .load none (.t 16), none⟩,
  ⟨some 18, .bin .add (.t 17) (.c (.int .i64 1)), none⟩,
  ⟨some 19, .nilck (.t 14), none⟩,
  ⟨some 20, .fld 64 (.t 19), none⟩,
  ⟨none, .store 1 (.t 20) (.t 18), none⟩]
def b47 : ICode :=
 (.seq (.reg [(0, false), (1, false), (2, false), (3, false), (4, false), (5, false), (6, false), (7, false), (8, false), (9, false), (10, false)] r47_0)
 (.reg [(0, false), (1, false), (2, false), (3, false), (4, false), (5, false), (6, false), (7, false)] r47_1))
def f47 : IFunc := { nt := 21, res := [], body := b47 }
def ps47 : List Phases := [⟨[([(0, false), (1, false), (2, false), (3, false), (4, false), (5, false), (6, false), (7, false), (8, false), (9, false)], 10)], []⟩]
def ms47 : List (Option (List Nat)) := []
-- (*chatelaine/steal.meter).count
def r48_0 : List IOper := [⟨some 6, .mov (.c (.int .i64 0)), none⟩]
def r48_1 : List IOper := [⟨some 7, .mov (.c (.int .i64 0)), none⟩]
def r48_2 : List IOper := [⟨some 10, .mov (.t 0), none⟩,
  ⟨some 11, .nilck (.t 10), none⟩,
  ⟨some 12, .fld 0 (.t 11), none⟩,
  ⟨some 13, .mov (.t 0), none⟩,
  ⟨some 14, .nilck (.t 13), none⟩,
  ⟨some 15, .fld 64 (.t 14), none⟩,
  ⟨some 16, .load none (.t 15), none⟩,
  ⟨some 17, .mini [(.t 16), (.c (.int .i64 64))], none⟩,
  ⟨some 18, .slcA 64 1 (.t 12) none (some (.t 17)), none⟩,
  ⟨some 19, .lenL (.t 18), none⟩,
  ⟨some 20, .mov (.c (.int .i64 0)), none⟩]
def r48_3 : List IOper := [⟨some 21, .bin .lss (.t 20) (.t 19), none⟩]
def r48_4 : List IOper := [⟨some 22, .ixS 1 (.t 18) (.t 20), none⟩,
  ⟨some 23, .load none (.t 22), none⟩,
  ⟨some 9, .mov (.t 23), none⟩]
def r48_5 : List IOper := [⟨some 24, .mov (.t 9), none⟩,
  ⟨some 25, .mov (.t 1), none⟩,
  ⟨some 26, .bin .leq (.t 24) (.t 25), none⟩,
  ⟨some 27, .mov (.t 26), none⟩,
  ⟨some 28, .mov (.t 1), some (27, true)⟩,
  ⟨some 29, .mov (.t 9), some (27, true)⟩,
  ⟨some 30, .bin .sub (.t 28) (.t 29), some (27, true)⟩,
  ⟨some 31, .mov (.t 2), some (27, true)⟩,
  ⟨some 32, .bin .lss (.t 30) (.t 31), some (27, true)⟩,
  ⟨some 33, .pick (.t 27) (.t 32) (.c (.bool false)), none⟩]
def r48_6 : List IOper := [⟨some 34, .mov (.t 7), none⟩,
  ⟨some 35, .bin .add (.t 34) (.c (.int .i64 1)), none⟩,
  ⟨some 7, .mov (.t 35), none⟩]
def r48_7 : List IOper := [⟨some 36, .bin .add (.t 20) (.c (.int .i64 1)), none⟩,
  ⟨some 20, .mov (.t 36), none⟩]
def r48_8 : List IOper := [⟨some 37, .mov (.t 7), none⟩,
  ⟨some 6, .mov (.t 37), none⟩]
def b48 : ICode :=
 (.seq (.reg [(0, false)] r48_0)
 (.seq (.reg [(0, false)] r48_1)
 (.seq (.seq (.reg [(0, false), (1, false), (2, false), (3, false), (4, false), (5, false), (6, false), (7, false), (8, false), (9, false), (10, false)] r48_2)
 (.seq (.block 0 (.loop (.seq (.mask [1, 2, 7, 18, 19, 20]) (.seq (.reg [(0, false)] r48_3)
 (.seq (.cond (.t 21) .skip
 (.exit 0))
 (.seq (.seq (.block 1 (.seq (.reg [(0, false), (1, false), (2, false)] r48_4)
 (.seq (.reg [(0, false), (1, false), (2, false), (3, false), (4, false), (5, false), (6, false), (7, false), (8, false), (9, false)] r48_5)
 (.seq (.cond (.t 33) (.reg [(0, false), (1, false), (2, false)] r48_6)
 .skip) (.mask [1, 2, 7, 18, 19, 20]))))) (.mask [1, 2, 7, 18, 19, 20]))
 (.reg [(0, false), (1, false)] r48_7))))))) (.mask [7])))
 (.seq (.reg [(0, false), (1, false)] r48_8)
 .ret))))
def f48 : IFunc := { nt := 38, res := [((.t 6), none)], body := b48 }
def ps48 : List Phases := [⟨[], [(0, false), (1, false), (2, false), (3, false), (4, false), (5, false), (6, false), (7, false), (8, false), (9, false), (10, false)]⟩]
def ms48 : List (Option (List Nat)) := [some [1, 2, 7, 18, 19, 20], none, some [1, 2, 7, 18, 19, 20], some [1, 2, 7, 18, 19, 20], some [7]]
-- cmp.Or[int]
def r49_0 : List IOper := [⟨some 2, .mov (.c (.int .i64 0)), none⟩]
def r49_1 : List IOper := [⟨some 3, .mov (.c (.int .i64 0)), none⟩]
def r49_2 : List IOper := [⟨some 6, .mov (.t 0), none⟩,
  ⟨some 7, .lenL (.t 6), none⟩,
  ⟨some 8, .mov (.c (.int .i64 0)), none⟩]
def r49_3 : List IOper := [⟨some 9, .bin .lss (.t 8) (.t 7), none⟩]
def r49_4 : List IOper := [⟨some 10, .ixS 1 (.t 6) (.t 8), none⟩,
  ⟨some 11, .load none (.t 10), none⟩,
  ⟨some 5, .mov (.t 11), none⟩]
def r49_5 : List IOper := [⟨some 12, .mov (.t 5), none⟩,
  ⟨some 13, .mov (.t 3), none⟩,
  ⟨some 14, .bin .neq (.t 12) (.t 13), none⟩]
def r49_6 : List IOper := [⟨some 15, .mov (.t 5), none⟩,
  ⟨some 2, .mov (.t 15), none⟩]
def r49_7 : List IOper := [⟨some 16, .bin .add (.t 8) (.c (.int .i64 1)), none⟩,
  ⟨some 8, .mov (.t 16), none⟩]
def r49_8 : List IOper := [⟨some 17, .mov (.t 3), none⟩,
  ⟨some 2, .mov (.t 17), none⟩]
def b49 : ICode :=
 (.seq (.reg [(0, false)] r49_0)
 (.seq (.reg [(0, false)] r49_1)
 (.seq (.seq (.reg [(0, false), (1, false), (2, false)] r49_2)
 (.seq (.block 0 (.loop (.seq (.mask [3, 6, 7, 8]) (.seq (.reg [(0, false)] r49_3)
 (.seq (.cond (.t 9) .skip
 (.exit 0))
 (.seq (.seq (.block 1 (.seq (.reg [(0, false), (1, false), (2, false)] r49_4)
 (.seq (.reg [(0, false), (1, false), (2, false)] r49_5)
 (.cond (.t 14) (.seq (.reg [(0, false), (1, false)] r49_6)
 .ret)
 .skip)))) (.mask [3, 6, 7, 8]))
 (.reg [(0, false), (1, false)] r49_7))))))) (.mask [3])))
 (.seq (.reg [(0, false), (1, false)] r49_8)
 .ret))))
def f49 : IFunc := { nt := 18, res := [((.t 2), none)], body := b49 }
def ps49 : List Phases := []
def ms49 : List (Option (List Nat)) := [some [3, 6, 7, 8], none, none, some [3, 6, 7, 8], some [3]]
-- cmp.Compare[uint64]
def r50_0 : List IOper := [⟨some 4, .mov (.c (.int .i64 0)), none⟩]
def r50_1 : List IOper := [⟨some 7, .mov (.t 0), none⟩,
  ⟨some 8, .callF 52 [(.t 7)], none⟩,
  ⟨some 5, .mov (.t 8), none⟩]
def r50_2 : List IOper := [⟨some 9, .mov (.t 1), none⟩,
  ⟨some 10, .callF 52 [(.t 9)], none⟩,
  ⟨some 6, .mov (.t 10), none⟩]
def r50_3 : List IOper := [⟨some 11, .mov (.t 5), none⟩]
def r50_4 : List IOper := [⟨some 12, .mov (.t 6), none⟩]
def r50_5 : List IOper := [⟨some 4, .mov (.c (.int .i64 0)), none⟩]
def r50_6 : List IOper := [⟨some 4, .mov (.c (.int .i64 (-1))), none⟩]
def r50_7 : List IOper := [⟨some 13, .mov (.t 6), none⟩]
def r50_8 : List IOper := [⟨some 4, .mov (.c (.int .i64 1)), none⟩]
def r50_9 : List IOper := [⟨some 14, .mov (.t 0), none⟩,
  ⟨some 15, .mov (.t 1), none⟩,
  ⟨some 16, .bin .lss (.t 14) (.t 15), none⟩]
def r50_10 : List IOper := [⟨some 4, .mov (.c (.int .i64 (-1))), none⟩]
def r50_11 : List IOper := [⟨some 17, .mov (.t 0), none⟩,
  ⟨some 18, .mov (.t 1), none⟩,
  ⟨some 19, .bin .gtr (.t 17) (.t 18), none⟩]
def r50_12 : List IOper := [⟨some 4, .mov (.c (.int .i64 1)), none⟩]
def r50_13 : List IOper := [⟨some 4, .mov (.c (.int .i64 0)), none⟩]
def b50 : ICode :=
 (.seq (.reg [(0, false)] r50_0)
 (.seq (.reg [(0, false), (1, false), (2, false)] r50_1)
 (.seq (.reg [(0, false), (1, false), (2, false)] r50_2)
 (.seq (.seq (.reg [(0, false)] r50_3)
 (.cond (.t 11) (.seq (.seq (.reg [(0, false)] r50_4)
 (.cond (.t 12) (.seq (.reg [(0, false)] r50_5)
 .ret)
 .skip))
 (.seq (.reg [(0, false)] r50_6)
 .ret))
 .skip))
 (.seq (.seq (.reg [(0, false)] r50_7)
 (.cond (.t 13) (.seq (.reg [(0, false)] r50_8)
 .ret)
 .skip))
 (.seq (.seq (.reg [(0, false), (1, false), (2, false)] r50_9)
 (.cond (.t 16) (.seq (.reg [(0, false)] r50_10)
 .ret)
 .skip))
 (.seq (.seq (.reg [(0, false), (1, false), (2, false)] r50_11)
 (.cond (.t 19) (.seq (.reg [(0, false)] r50_12)
 .ret)
 .skip))
 (.seq (.reg [(0, false)] r50_13)
 .ret))))))))
def f50 : IFunc := { nt := 20, res := [((.t 4), none)], body := b50 }
def ps50 : List Phases := []
def ms50 : List (Option (List Nat)) := [none, none, none, none, none]
-- cmp.Compare[int]
def r51_0 : List IOper := [⟨some 4, .mov (.c (.int .i64 0)), none⟩]
def r51_1 : List IOper := [⟨some 7, .mov (.t 0), none⟩,
  ⟨some 8, .callF 53 [(.t 7)], none⟩,
  ⟨some 5, .mov (.t 8), none⟩]
def r51_2 : List IOper := [⟨some 9, .mov (.t 1), none⟩,
  ⟨some 10, .callF 53 [(.t 9)], none⟩,
  ⟨some 6, .mov (.t 10), none⟩]
def r51_3 : List IOper := [⟨some 11, .mov (.t 5), none⟩]
def r51_4 : List IOper := [⟨some 12, .mov (.t 6), none⟩]
def r51_5 : List IOper := [⟨some 4, .mov (.c (.int .i64 0)), none⟩]
def r51_6 : List IOper := [⟨some 4, .mov (.c (.int .i64 (-1))), none⟩]
def r51_7 : List IOper := [⟨some 13, .mov (.t 6), none⟩]
def r51_8 : List IOper := [⟨some 4, .mov (.c (.int .i64 1)), none⟩]
def r51_9 : List IOper := [⟨some 14, .mov (.t 0), none⟩,
  ⟨some 15, .mov (.t 1), none⟩,
  ⟨some 16, .bin .lss (.t 14) (.t 15), none⟩]
def r51_10 : List IOper := [⟨some 4, .mov (.c (.int .i64 (-1))), none⟩]
def r51_11 : List IOper := [⟨some 17, .mov (.t 0), none⟩,
  ⟨some 18, .mov (.t 1), none⟩,
  ⟨some 19, .bin .gtr (.t 17) (.t 18), none⟩]
def r51_12 : List IOper := [⟨some 4, .mov (.c (.int .i64 1)), none⟩]
def r51_13 : List IOper := [⟨some 4, .mov (.c (.int .i64 0)), none⟩]
def b51 : ICode :=
 (.seq (.reg [(0, false)] r51_0)
 (.seq (.reg [(0, false), (1, false), (2, false)] r51_1)
 (.seq (.reg [(0, false), (1, false), (2, false)] r51_2)
 (.seq (.seq (.reg [(0, false)] r51_3)
 (.cond (.t 11) (.seq (.seq (.reg [(0, false)] r51_4)
 (.cond (.t 12) (.seq (.reg [(0, false)] r51_5)
 .ret)
 .skip))
 (.seq (.reg [(0, false)] r51_6)
 .ret))
 .skip))
 (.seq (.seq (.reg [(0, false)] r51_7)
 (.cond (.t 13) (.seq (.reg [(0, false)] r51_8)
 .ret)
 .skip))
 (.seq (.seq (.reg [(0, false), (1, false), (2, false)] r51_9)
 (.cond (.t 16) (.seq (.reg [(0, false)] r51_10)
 .ret)
 .skip))
 (.seq (.seq (.reg [(0, false), (1, false), (2, false)] r51_11)
 (.cond (.t 19) (.seq (.reg [(0, false)] r51_12)
 .ret)
 .skip))
 (.seq (.reg [(0, false)] r51_13)
 .ret))))))))
def f51 : IFunc := { nt := 20, res := [((.t 4), none)], body := b51 }
def ps51 : List Phases := []
def ms51 : List (Option (List Nat)) := [none, none, none, none, none]
-- cmp.isNaN[uint64]
def r52_0 : List IOper := [⟨some 2, .mov (.c (.bool false)), none⟩]
def r52_1 : List IOper := [⟨some 3, .mov (.t 0), none⟩,
  ⟨some 4, .mov (.t 0), none⟩,
  ⟨some 5, .bin .neq (.t 3) (.t 4), none⟩,
  ⟨some 2, .mov (.t 5), none⟩]
def b52 : ICode :=
 (.seq (.reg [(0, false)] r52_0)
 (.seq (.reg [(0, false), (1, false), (2, false), (3, false)] r52_1)
 .ret))
def f52 : IFunc := { nt := 6, res := [((.t 2), none)], body := b52 }
def ps52 : List Phases := []
def ms52 : List (Option (List Nat)) := []
-- cmp.isNaN[int]
def r53_0 : List IOper := [⟨some 2, .mov (.c (.bool false)), none⟩]
def r53_1 : List IOper := [⟨some 3, .mov (.t 0), none⟩,
  ⟨some 4, .mov (.t 0), none⟩,
  ⟨some 5, .bin .neq (.t 3) (.t 4), none⟩,
  ⟨some 2, .mov (.t 5), none⟩]
def b53 : ICode :=
 (.seq (.reg [(0, false)] r53_0)
 (.seq (.reg [(0, false), (1, false), (2, false), (3, false)] r53_1)
 .ret))
def f53 : IFunc := { nt := 6, res := [((.t 2), none)], body := b53 }
def ps53 : List Phases := []
def ms53 : List (Option (List Nat)) := []
theorem ok6 : rfunc Try.prog Try.f6 ps6 ms6 = some f6 := by kernel_rfl
theorem ok7 : rfunc Try.prog Try.f7 ps7 ms7 = some f7 := by kernel_rfl
theorem ok8 : rfunc Try.prog Try.f8 ps8 ms8 = some f8 := by kernel_rfl
theorem ok9 : rfunc Try.prog Try.f9 ps9 ms9 = some f9 := by kernel_rfl
theorem ok10 : rfunc Try.prog Try.f10 ps10 ms10 = some f10 := by kernel_rfl
theorem ok13 : rfunc Try.prog Try.f13 ps13 ms13 = some f13 := by kernel_rfl
theorem ok14 : rfunc Try.prog Try.f14 ps14 ms14 = some f14 := by kernel_rfl
theorem ok15 : rfunc Try.prog Try.f15 ps15 ms15 = some f15 := by kernel_rfl
theorem ok16 : rfunc Try.prog Try.f16 ps16 ms16 = some f16 := by kernel_rfl
theorem ok18 : rfunc Try.prog Try.f18 ps18 ms18 = some f18 := by kernel_rfl
theorem ok20 : rfunc Try.prog Try.f20 ps20 ms20 = some f20 := by kernel_rfl
theorem ok23 : rfunc Try.prog Try.f23 ps23 ms23 = some f23 := by kernel_rfl
theorem ok24 : rfunc Try.prog Try.f24 ps24 ms24 = some f24 := by kernel_rfl
theorem ok25 : rfunc Try.prog Try.f25 ps25 ms25 = some f25 := by kernel_rfl
theorem ok26 : rfunc Try.prog Try.f26 ps26 ms26 = some f26 := by kernel_rfl
theorem ok27 : rfunc Try.prog Try.f27 ps27 ms27 = some f27 := by kernel_rfl
theorem ok28 : rfunc Try.prog Try.f28 ps28 ms28 = some f28 := by kernel_rfl
theorem ok29 : rfunc Try.prog Try.f29 ps29 ms29 = some f29 := by kernel_rfl
theorem ok30 : rfunc Try.prog Try.f30 ps30 ms30 = some f30 := by kernel_rfl
theorem ok31 : rfunc Try.prog Try.f31 ps31 ms31 = some f31 := by kernel_rfl
theorem ok32 : rfunc Try.prog Try.f32 ps32 ms32 = some f32 := by kernel_rfl
theorem ok33 : rfunc Try.prog Try.f33 ps33 ms33 = some f33 := by kernel_rfl
theorem ok34 : rfunc Try.prog Try.f34 ps34 ms34 = some f34 := by kernel_rfl
theorem ok35 : rfunc Try.prog Try.f35 ps35 ms35 = some f35 := by kernel_rfl
theorem ok38 : rfunc Try.prog Try.f38 ps38 ms38 = some f38 := by kernel_rfl
theorem ok40 : rfunc Try.prog Try.f40 ps40 ms40 = some f40 := by kernel_rfl
theorem ok43 : rfunc Try.prog Try.f43 ps43 ms43 = some f43 := by kernel_rfl
theorem ok44 : rfunc Try.prog Try.f44 ps44 ms44 = some f44 := by kernel_rfl
theorem ok46 : rfunc Try.prog Try.f46 ps46 ms46 = some f46 := by kernel_rfl
theorem ok47 : rfunc Try.prog Try.f47 ps47 ms47 = some f47 := by kernel_rfl
theorem ok48 : rfunc Try.prog Try.f48 ps48 ms48 = some f48 := by kernel_rfl
theorem ok49 : rfunc Try.prog Try.f49 ps49 ms49 = some f49 := by kernel_rfl
theorem ok50 : rfunc Try.prog Try.f50 ps50 ms50 = some f50 := by kernel_rfl
theorem ok51 : rfunc Try.prog Try.f51 ps51 ms51 = some f51 := by kernel_rfl
theorem ok52 : rfunc Try.prog Try.f52 ps52 ms52 = some f52 := by kernel_rfl
theorem ok53 : rfunc Try.prog Try.f53 ps53 ms53 = some f53 := by kernel_rfl
def T : FuncId → Option IFunc
  | 6 => some f6
  | 7 => some f7
  | 8 => some f8
  | 9 => some f9
  | 10 => some f10
  | 13 => some f13
  | 14 => some f14
  | 15 => some f15
  | 16 => some f16
  | 18 => some f18
  | 20 => some f20
  | 23 => some f23
  | 24 => some f24
  | 25 => some f25
  | 26 => some f26
  | 27 => some f27
  | 28 => some f28
  | 29 => some f29
  | 30 => some f30
  | 31 => some f31
  | 32 => some f32
  | 33 => some f33
  | 34 => some f34
  | 35 => some f35
  | 38 => some f38
  | 40 => some f40
  | 43 => some f43
  | 44 => some f44
  | 46 => some f46
  | 47 => some f47
  | 48 => some f48
  | 49 => some f49
  | 50 => some f50
  | 51 => some f51
  | 52 => some f52
  | 53 => some f53
  | _ => none
theorem T_ok : TOk Try.prog T := by
  intro f i h
  unfold T at h
  split at h <;> cases h
  · exact ⟨_, _, _, Try.func6, ok6⟩
  · exact ⟨_, _, _, Try.func7, ok7⟩
  · exact ⟨_, _, _, Try.func8, ok8⟩
  · exact ⟨_, _, _, Try.func9, ok9⟩
  · exact ⟨_, _, _, Try.func10, ok10⟩
  · exact ⟨_, _, _, Try.func13, ok13⟩
  · exact ⟨_, _, _, Try.func14, ok14⟩
  · exact ⟨_, _, _, Try.func15, ok15⟩
  · exact ⟨_, _, _, Try.func16, ok16⟩
  · exact ⟨_, _, _, Try.func18, ok18⟩
  · exact ⟨_, _, _, Try.func20, ok20⟩
  · exact ⟨_, _, _, Try.func23, ok23⟩
  · exact ⟨_, _, _, Try.func24, ok24⟩
  · exact ⟨_, _, _, Try.func25, ok25⟩
  · exact ⟨_, _, _, Try.func26, ok26⟩
  · exact ⟨_, _, _, Try.func27, ok27⟩
  · exact ⟨_, _, _, Try.func28, ok28⟩
  · exact ⟨_, _, _, Try.func29, ok29⟩
  · exact ⟨_, _, _, Try.func30, ok30⟩
  · exact ⟨_, _, _, Try.func31, ok31⟩
  · exact ⟨_, _, _, Try.func32, ok32⟩
  · exact ⟨_, _, _, Try.func33, ok33⟩
  · exact ⟨_, _, _, Try.func34, ok34⟩
  · exact ⟨_, _, _, Try.func35, ok35⟩
  · exact ⟨_, _, _, Try.func38, ok38⟩
  · exact ⟨_, _, _, Try.func40, ok40⟩
  · exact ⟨_, _, _, Try.func43, ok43⟩
  · exact ⟨_, _, _, Try.func44, ok44⟩
  · exact ⟨_, _, _, Try.func46, ok46⟩
  · exact ⟨_, _, _, Try.func47, ok47⟩
  · exact ⟨_, _, _, Try.func48, ok48⟩
  · exact ⟨_, _, _, Try.func49, ok49⟩
  · exact ⟨_, _, _, Try.func50, ok50⟩
  · exact ⟨_, _, _, Try.func51, ok51⟩
  · exact ⟨_, _, _, Try.func52, ok52⟩
  · exact ⟨_, _, _, Try.func53, ok53⟩
end Go.Proofs.YtllagimocmdldaaI
