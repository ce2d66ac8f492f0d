/- The functions of the laws, told as the machine's; no conditions. -/
import Derived.Test.YtdehmopdlbdmfaaProg
import Derived.Test.YtdehmopdlbdmfaaM25
set_option maxRecDepth 100000
set_option linter.unusedVariables false
namespace Go.Proofs.YtdehmopdlbdmfaaI
open Go Go.Proofs.YtdehmopdlbdmfaaM
-- chatelaine/chatelainelaw14.NetFull
def r3_0 : List IOper := [⟨some 2, .mov (.c (.bool false)), none⟩]
def r3_1 : List IOper := [⟨some 6, .callF 14 [], none⟩,
  ⟨some 7, .un .not (.t 6), none⟩]
def r3_2 : List IOper := [⟨some 2, .mov (.c (.bool false)), none⟩]
def r3_3 : List IOper := [⟨some 8, .callF 15 [(.c (.int .i64 3))], none⟩,
  ⟨some 3, .mov (.t 8), none⟩]
def r3_4 : List IOper := [⟨some 9, .mov (.t 3), none⟩,
  ⟨some 10, .eqn 1 false (.t 9) (.c .nilp), none⟩]
def r3_5 : List IOper := [⟨some 2, .mov (.c (.bool false)), none⟩]
def r3_6 : List IOper := [⟨some 11, .build [(.int .i64 0), (.int .i64 0), (.str (⟨#[]⟩ : ByteArray))] [(0, 1, (.c (.int .i64 2))), (1, 1, (.c (.int .i64 1))), (2, 1, (.c (.str (⟨#[120]⟩ : ByteArray))))], none⟩,
  ⟨some 4, .alloc [(.int .i64 0), (.int .i64 0), (.str (⟨#[]⟩ : ByteArray))], none⟩,
  ⟨none, .store 3 (.t 4) (.t 11), none⟩]
def r3_7 : List IOper := [⟨some 12, .mov (.c (.int .i64 0)), none⟩]
def r3_8 : List IOper := [⟨some 13, .bin .lss (.t 12) (.c (.int .i64 4000)), none⟩]
def r3_9 : List IOper := [⟨some 14, .mov (.t 3), none⟩,
  ⟨some 15, .load (some 3) (.t 4), none⟩,
  ⟨some 16, .callF 16 [(.t 14), (.t 15)], none⟩,
  ⟨some 17, .un .not (.t 16), none⟩]
def r3_10 : List IOper := [⟨some 2, .mov (.c (.bool false)), none⟩]
def r3_11 : List IOper := [⟨some 18, .bin .add (.t 12) (.c (.int .i64 1)), none⟩,
  ⟨some 12, .mov (.t 18), none⟩]
def r3_12 : List IOper := [⟨some 19, .mov (.t 0), none⟩,
  ⟨some 20, .bin .geq (.t 19) (.c (.int .i64 0)), none⟩,
  ⟨some 21, .mov (.t 20), none⟩,
  ⟨some 22, .mov (.t 0), some (21, true)⟩,
  ⟨some 23, .bin .lss (.t 22) (.c (.int .i64 4000)), some (21, true)⟩,
  ⟨some 24, .pick (.t 21) (.t 23) (.c (.bool false)), none⟩,
  ⟨some 5, .mov (.t 24), none⟩]
def r3_13 : List IOper := [⟨some 25, .mov (.t 3), none⟩,
  ⟨some 26, .load (some 3) (.t 4), none⟩,
  ⟨some 27, .callF 16 [(.t 25), (.t 26)], none⟩,
  ⟨some 28, .un .not (.t 27), none⟩,
  ⟨some 29, .mov (.t 28), none⟩,
  ⟨some 30, .mov (.t 3), some (29, true)⟩,
  ⟨some 31, .mov (.t 0), some (29, true)⟩,
  ⟨some 32, .callF 17 [(.t 30), (.t 31)], some (29, true)⟩,
  ⟨some 33, .un .not (.t 32), some (29, true)⟩,
  ⟨some 34, .pick (.t 29) (.t 33) (.c (.bool false)), none⟩,
  ⟨some 35, .mov (.t 34), none⟩,
  ⟨some 36, .mov (.t 3), some (35, true)⟩,
  ⟨some 37, .mov (.t 0), some (35, true)⟩,
  ⟨some 38, .callF 18 [(.t 36), (.t 37)], some (35, true)⟩,
  ⟨some 39, .mov (.t 5), some (35, true)⟩,
  ⟨some 40, .eqn 0 false (.t 38) (.t 39), some (35, true)⟩,
  ⟨some 41, .pick (.t 35) (.t 40) (.c (.bool false)), none⟩,
  ⟨some 42, .mov (.t 41), none⟩,
  ⟨some 43, .mov (.t 3), some (42, true)⟩,
  ⟨some 44, .mov (.t 0), some (42, true)⟩,
  ⟨some 45, .callF 19 [(.t 43), (.t 44)], some (42, true)⟩,
  ⟨some 46, .mov (.t 5), some (42, true)⟩,
  ⟨some 47, .eqn 0 false (.t 45) (.t 46), some (42, true)⟩,
  ⟨some 48, .pick (.t 42) (.t 47) (.c (.bool false)), none⟩,
  ⟨some 49, .mov (.t 48), none⟩,
  ⟨some 50, .mov (.t 3), some (49, true)⟩,
  ⟨some 51, .load (some 3) (.t 4), some (49, true)⟩,
  ⟨some 52, .callF 16 [(.t 50), (.t 51)], some (49, true)⟩,
  ⟨some 53, .mov (.t 5), some (49, true)⟩,
  ⟨some 54, .eqn 0 false (.t 52) (.t 53), some (49, true)⟩,
  ⟨some 55, .pick (.t 49) (.t 54) (.c (.bool false)), none⟩,
  ⟨some 56, .mov (.t 55), none⟩,
  ⟨some 57, .mov (.t 3), some (56, true)⟩,
  ⟨some 58, .callF 20 [(.t 57)], some (56, true)⟩,
  ⟨some 59, .bin .eql (.t 58) (.c (.int .i64 4000)), some (56, true)⟩,
  ⟨some 60, .pick (.t 56) (.t 59) (.c (.bool false)), none⟩,
  ⟨some 2, .mov (.t 60), none⟩]
def b3 : ICode :=
 (.seq (.reg [(0, false)] r3_0)
 (.seq (.seq (.reg [(0, false), (1, false)] r3_1)
 (.cond (.t 7) (.seq (.reg [(0, false)] r3_2)
 .ret)
 .skip))
 (.seq (.reg [(0, false), (1, false)] r3_3)
 (.seq (.seq (.reg [(0, false), (1, false)] r3_4)
 (.cond (.t 10) (.seq (.reg [(0, false)] r3_5)
 .ret)
 .skip))
 (.seq (.reg [(0, false), (1, false), (2, false)] r3_6)
 (.seq (.seq (.reg [(0, false)] r3_7)
 (.seq (.block 0 (.loop (.seq (.mask [0, 3, 4, 12]) (.seq (.reg [(0, false)] r3_8)
 (.seq (.cond (.t 13) .skip
 (.exit 0))
 (.seq (.seq (.block 1 (.seq (.reg [(0, false), (1, false), (2, false), (3, false)] r3_9)
 (.cond (.t 17) (.seq (.reg [(0, false)] r3_10)
 .ret)
 .skip))) (.mask [0, 3, 4, 12]))
 (.reg [(0, false), (1, false)] r3_11))))))) (.mask [0, 3, 4])))
 (.seq (.reg [(0, false), (1, false), (2, false), (3, false), (4, false), (5, false), (6, false)] r3_12)
 (.seq (.reg [(0, false), (1, false), (2, false), (3, false), (4, false), (5, false), (6, false), (7, false), (8, false), (9, false), (10, false), (11, false), (12, false), (13, false), (14, false), (15, false), (16, false), (17, false), (18, false), (19, false), (20, false), (21, false), (22, false), (23, false), (24, false), (25, false), (26, false), (27, false), (28, false), (29, false), (30, false), (31, false), (32, false), (33, false), (34, false), (35, false), (36, false)] r3_13)
 .ret))))))))
def f3 : IFunc := { nt := 61, res := [((.t 2), none)], body := b3 }
def ps3 : List Phases := []
def ms3 : List (Option (List Nat)) := [none, none, some [0, 3, 4, 12], none, none, some [0, 3, 4, 12], some [0, 3, 4]]
-- chatelaine/chatelainelaw14.NetFifo
def r4_0 : List IOper := [⟨some 4, .mov (.c (.bool false)), none⟩]
def r4_1 : List IOper := [⟨some 15, .callF 14 [], none⟩,
  ⟨some 16, .un .not (.t 15), none⟩]
def r4_2 : List IOper := [⟨some 4, .mov (.c (.bool false)), none⟩]
def r4_3 : List IOper := [⟨some 17, .mov (.t 0), none⟩,
  ⟨some 18, .callF 15 [(.t 17)], none⟩,
  ⟨some 5, .mov (.t 18), none⟩]
def r4_4 : List IOper := [⟨some 19, .mov (.t 5), none⟩,
  ⟨some 20, .eqn 1 false (.t 19) (.c .nilp), none⟩]
def r4_5 : List IOper := [⟨some 4, .mov (.c (.bool false)), none⟩]
def r4_6 : List IOper := [⟨some 6, .mov (.c .nils), none⟩]
def r4_7 : List IOper := [⟨some 7, .mov (.c (.int .i64 0)), none⟩]
def r4_8 : List IOper := [⟨some 21, .mov (.t 7), none⟩,
  ⟨some 22, .mov (.t 1), none⟩,
  ⟨some 23, .lenL (.t 22), none⟩,
  ⟨some 24, .bin .lss (.t 21) (.t 23), none⟩,
  ⟨some 25, .mov (.t 24), none⟩,
  ⟨some 26, .mov (.t 7), some (25, true)⟩,
  ⟨some 27, .bin .lss (.t 26) (.c (.int .i64 100)), some (25, true)⟩,
  ⟨some 28, .pick (.t 25) (.t 27) (.c (.bool false)), none⟩]
def r4_9 : List IOper := [⟨some 31, .mov (.t 1), none⟩,
  ⟨some 32, .mov (.t 7), none⟩,
  ⟨some 33, .ixS 4 (.t 31) (.t 32), none⟩,
  ⟨some 34, .fld 1 (.t 33), none⟩,
  ⟨some 35, .load none (.t 34), none⟩,
  ⟨some 36, .mov (.t 1), none⟩,
  ⟨some 37, .mov (.t 7), none⟩,
  ⟨some 38, .ixS 4 (.t 36) (.t 37), none⟩,
  ⟨some 39, .fld 2 (.t 38), none⟩,
  ⟨some 40, .load none (.t 39), none⟩,
  ⟨some 41, .mov (.t 1), none⟩,
  ⟨some 42, .mov (.t 7), none⟩,
  ⟨some 43, .ixS 4 (.t 41) (.t 42), none⟩,
  ⟨some 44, .fld 3 (.t 43), none⟩,
  ⟨some 45, .load none (.t 44), none⟩,
  ⟨some 46, .callF 21 [(.t 45), (.c (.int .i64 30))], none⟩,
  ⟨some 47, .build [(.int .i64 0), (.int .i64 0), (.str (⟨#[]⟩ : ByteArray))] [(0, 1, (.t 35)), (1, 1, (.t 40)), (2, 1, (.t 46))], none⟩,
  ⟨some 8, .alloc [(.int .i64 0), (.int .i64 0), (.str (⟨#[]⟩ : ByteArray))], none⟩,
  ⟨none, .store 3 (.t 8) (.t 47), none⟩]
def r4_10 : List IOper := [⟨some 48, .mov (.t 5), none⟩,
  ⟨some 49, .load (some 3) (.t 8), none⟩,
  ⟨some 50, .callF 16 [(.t 48), (.t 49)], none⟩]
def r4_11 : List IOper := [⟨some 51, .mov (.t 6), none⟩,
  ⟨some 52, .load (some 3) (.t 8), none⟩,
  ⟨some 53, .buildS 3 1 [(.int .i64 0), (.int .i64 0), (.str (⟨#[]⟩ : ByteArray))] [(0, (.t 52))], none⟩,
  ⟨some 54, .app 3 32 (.t 51) (.t 53), none⟩,
  ⟨some 6, .mov (.t 54), none⟩]
def r4_12 : List IOper := [⟨some 29, .mov (.t 7), none⟩,
  ⟨some 30, .bin .add (.t 29) (.c (.int .i64 1)), none⟩,
  ⟨some 7, .mov (.t 30), none⟩]
def r4_13 : List IOper := [⟨some 55, .mov (.t 6), none⟩,
  ⟨some 56, .lenL (.t 55), none⟩,
  ⟨some 57, .mov (.c (.int .i64 0)), none⟩]
def r4_14 : List IOper := [⟨some 58, .bin .lss (.t 57) (.t 56), none⟩]
def r4_15 : List IOper := [⟨some 59, .ixS 3 (.t 55) (.t 57), none⟩,
  ⟨some 60, .load (some 3) (.t 59), none⟩,
  ⟨some 10, .alloc [(.int .i64 0), (.int .i64 0), (.str (⟨#[]⟩ : ByteArray))], none⟩,
  ⟨none, .store 3 (.t 10) (.t 60), none⟩]
def r4_16 : List IOper := [⟨some 62, .mov (.t 5), none⟩,
  ⟨some 63, .callF 22 [(.t 62), (.c (.int .i64 0))], none⟩,
  ⟨some 61, .mov (.t 63), none⟩,
  ⟨some 64, .ext (.t 61) 0, none⟩,
  ⟨some 65, .ext (.t 61) 1, none⟩,
  ⟨some 11, .alloc [(.int .i64 0), (.int .i64 0), (.str (⟨#[]⟩ : ByteArray))], none⟩,
  ⟨none, .store 3 (.t 11) (.t 64), none⟩,
  ⟨some 12, .mov (.t 65), none⟩]
def r4_17 : List IOper := [⟨some 66, .mov (.t 12), none⟩,
  ⟨some 67, .un .not (.t 66), none⟩,
  ⟨some 68, .mov (.t 67), none⟩,
  ⟨some 69, .load (some 3) (.t 11), some (68, false)⟩,
  ⟨some 70, .load (some 3) (.t 10), some (68, false)⟩,
  ⟨some 71, .eqs true [1, 1, 2] (.t 69) (.t 70), some (68, false)⟩,
  ⟨some 72, .pick (.t 68) (.c (.bool true)) (.t 71), none⟩]
def r4_18 : List IOper := [⟨some 4, .mov (.c (.bool false)), none⟩]
def r4_19 : List IOper := [⟨some 73, .bin .add (.t 57) (.c (.int .i64 1)), none⟩,
  ⟨some 57, .mov (.t 73), none⟩]
def r4_20 : List IOper := [⟨some 75, .mov (.t 5), none⟩,
  ⟨some 76, .callF 22 [(.t 75), (.c (.int .i64 0))], none⟩,
  ⟨some 74, .mov (.t 76), none⟩,
  ⟨some 77, .ext (.t 74) 0, none⟩,
  ⟨some 78, .ext (.t 74) 1, none⟩,
  ⟨some 13, .alloc [(.int .i64 0), (.int .i64 0), (.str (⟨#[]⟩ : ByteArray))], none⟩,
  ⟨none, .store 3 (.t 13) (.t 77), none⟩,
  ⟨some 14, .mov (.t 78), none⟩]
def r4_21 : List IOper := [⟨some 79, .mov (.t 5), none⟩,
  ⟨some 80, .callF 20 [(.t 79)], none⟩,
  ⟨some 81, .bin .eql (.t 80) (.c (.int .i64 0)), none⟩,
  ⟨some 82, .mov (.t 81), none⟩,
  ⟨some 83, .mov (.t 14), some (82, true)⟩,
  ⟨some 84, .un .not (.t 83), some (82, true)⟩,
  ⟨some 85, .pick (.t 82) (.t 84) (.c (.bool false)), none⟩,
  ⟨some 86, .mov (.t 85), none⟩,
  ⟨some 87, .mov (.t 5), some (86, true)⟩,
  ⟨some 88, .callF 18 [(.t 87), (.c (.int .i64 0))], some (86, true)⟩,
  ⟨some 89, .un .not (.t 88), some (86, true)⟩,
  ⟨some 90, .pick (.t 86) (.t 89) (.c (.bool false)), none⟩,
  ⟨some 91, .mov (.t 90), none⟩,
  ⟨some 92, .mov (.t 5), some (91, true)⟩,
  ⟨some 93, .callF 19 [(.t 92), (.c (.int .i64 0))], some (91, true)⟩,
  ⟨some 94, .un .not (.t 93), some (91, true)⟩,
  ⟨some 95, .pick (.t 91) (.t 94) (.c (.bool false)), none⟩,
  ⟨some 96, .mov (.t 95), none⟩,
  ⟨some 97, .mov (.t 5), some (96, true)⟩,
  ⟨some 98, .callF 17 [(.t 97), (.c (.int .i64 0))], some (96, true)⟩,
  ⟨some 99, .un .not (.t 98), some (96, true)⟩,
  ⟨some 100, .pick (.t 96) (.t 99) (.c (.bool false)), none⟩,
  ⟨some 4, .mov (.t 100), none⟩]
def b4 : ICode :=
 (.seq (.reg [(0, false)] r4_0)
 (.seq (.seq (.reg [(0, false), (1, false)] r4_1)
 (.cond (.t 16) (.seq (.reg [(0, false)] r4_2)
 .ret)
 .skip))
 (.seq (.reg [(0, false), (1, false), (2, false)] r4_3)
 (.seq (.seq (.reg [(0, false), (1, false)] r4_4)
 (.cond (.t 20) (.seq (.reg [(0, false)] r4_5)
 .ret)
 .skip))
 (.seq (.reg [(0, false)] r4_6)
 (.seq (.seq (.reg [(0, false)] r4_7)
 (.seq (.block 0 (.loop (.seq (.mask [1, 5, 6, 7]) (.seq (.seq (.reg [(0, false), (1, false), (2, false), (3, false), (4, false), (5, false), (6, false), (7, false)] r4_8)
 (.cond (.t 28) .skip
 (.exit 0)))
 (.seq (.seq (.block 1 (.seq (.reg [(0, false), (1, false), (2, false), (3, false), (4, false), (5, false), (6, false), (7, false), (8, false), (9, false), (10, false), (11, false), (12, false), (13, false), (14, false), (15, false), (4, true), (9, true), (16, false), (17, false), (18, false)] r4_9)
 (.seq (.reg [(0, false), (1, false), (2, false)] r4_10)
 (.seq (.cond (.t 50) (.reg [(0, false), (1, false), (2, false), (3, false), (4, false)] r4_11)
 .skip) (.mask [1, 5, 6, 7]))))) (.mask [1, 5, 6, 7]))
 (.reg [(0, false), (1, false), (2, false)] r4_12)))))) (.mask [5, 6])))
 (.seq (.seq (.reg [(0, false), (1, false), (2, false)] r4_13)
 (.seq (.block 2 (.loop (.seq (.mask [5, 55, 56, 57]) (.seq (.reg [(0, false)] r4_14)
 (.seq (.cond (.t 58) .skip
 (.exit 2))
 (.seq (.seq (.block 3 (.seq (.reg [(0, false), (1, false), (2, false), (3, false)] r4_15)
 (.seq (.reg [(0, false), (1, false), (2, false), (3, false), (4, false), (5, false), (6, false), (7, false)] r4_16)
 (.seq (.reg [(0, false), (1, false), (2, false), (3, false), (4, false), (5, false), (6, false)] r4_17)
 (.cond (.t 72) (.seq (.reg [(0, false)] r4_18)
 .ret)
 .skip))))) (.mask [5, 55, 56, 57]))
 (.reg [(0, false), (1, false)] r4_19))))))) (.mask [5])))
 (.seq (.reg [(0, false), (1, false), (2, false), (3, false), (4, false), (5, false), (6, false), (7, false)] r4_20)
 (.seq (.reg [(0, false), (1, false), (2, false), (3, false), (4, false), (5, false), (6, false), (7, false), (8, false), (9, false), (10, false), (11, false), (12, false), (13, false), (14, false), (15, false), (16, false), (17, false), (18, false), (19, false), (20, false), (21, false), (22, false)] r4_21)
 .ret)))))))))
def f4 : IFunc := { nt := 101, res := [((.t 4), none)], body := b4 }
def ps4 : List Phases := [⟨[([(0, false), (1, false), (2, false), (3, false), (4, false), (5, false), (6, false), (7, false), (8, false), (9, false), (10, false), (11, false), (12, false), (13, false), (14, false)], 15), ([(4, true), (9, true), (16, false), (17, false)], 18)], []⟩]
def ms4 : List (Option (List Nat)) := [none, none, some [1, 5, 6, 7], none, some [1, 5, 6, 7], some [1, 5, 6, 7], some [5, 6], some [5, 55, 56, 57], none, none, some [5, 55, 56, 57], some [5]]
-- chatelaine/chatelainelaw14.NetCounts
def r5_0 : List IOper := [⟨some 4, .mov (.c (.bool false)), none⟩]
def r5_1 : List IOper := [⟨some 17, .callF 14 [], none⟩,
  ⟨some 18, .un .not (.t 17), none⟩]
def r5_2 : List IOper := [⟨some 4, .mov (.c (.bool false)), none⟩]
def r5_3 : List IOper := [⟨some 19, .mov (.t 0), none⟩,
  ⟨some 20, .callF 15 [(.t 19)], none⟩,
  ⟨some 5, .mov (.t 20), none⟩]
def r5_4 : List IOper := [⟨some 21, .mov (.t 5), none⟩,
  ⟨some 22, .eqn 1 false (.t 21) (.c .nilp), none⟩]
def r5_5 : List IOper := [⟨some 4, .mov (.c (.bool false)), none⟩]
def r5_6 : List IOper := [⟨some 6, .mov (.c (.int .i64 0)), none⟩,
  ⟨some 7, .mov (.c (.int .i64 0)), none⟩]
def r5_7 : List IOper := [⟨some 8, .mov (.c .nils), none⟩]
def r5_8 : List IOper := [⟨some 9, .mov (.c (.int .i64 0)), none⟩]
def r5_9 : List IOper := [⟨some 23, .mov (.t 9), none⟩,
  ⟨some 24, .mov (.t 1), none⟩,
  ⟨some 25, .lenL (.t 24), none⟩,
  ⟨some 26, .bin .lss (.t 23) (.t 25), none⟩,
  ⟨some 27, .mov (.t 26), none⟩,
  ⟨some 28, .mov (.t 9), some (27, true)⟩,
  ⟨some 29, .bin .lss (.t 28) (.c (.int .i64 40)), some (27, true)⟩,
  ⟨some 30, .pick (.t 27) (.t 29) (.c (.bool false)), none⟩]
def r5_10 : List IOper := [⟨some 33, .mov (.t 1), none⟩,
  ⟨some 34, .mov (.t 9), none⟩,
  ⟨some 35, .ixS 4 (.t 33) (.t 34), none⟩,
  ⟨some 36, .load (some 4) (.t 35), none⟩,
  ⟨some 10, .alloc [(.int .i64 0), (.int .i64 0), (.int .i64 0), (.str (⟨#[]⟩ : ByteArray))], none⟩,
  ⟨none, .store 4 (.t 10) (.t 36), none⟩]
def r5_11 : List IOper := [⟨some 37, .mov (.t 5), none⟩,
  ⟨some 38, .callF 20 [(.t 37)], none⟩,
  ⟨some 11, .mov (.t 38), none⟩]
def r5_12 : List IOper := [⟨some 39, .fld 0 (.t 10), none⟩,
  ⟨some 40, .load none (.t 39), none⟩]
def r5_13 : List IOper := [⟨some 51, .bin .eql (.t 40) (.c (.int .i64 0)), none⟩,
  ⟨some 50, .mov (.t 51), none⟩]
def r5_14 : List IOper := [⟨some 52, .mov (.t 5), none⟩,
  ⟨some 53, .fld 1 (.t 10), none⟩,
  ⟨some 54, .load none (.t 53), none⟩,
  ⟨some 55, .fld 2 (.t 10), none⟩,
  ⟨some 56, .load none (.t 55), none⟩,
  ⟨some 57, .fld 3 (.t 10), none⟩,
  ⟨some 58, .load none (.t 57), none⟩,
  ⟨some 59, .callF 21 [(.t 58), (.c (.int .i64 30))], none⟩,
  ⟨some 60, .build [(.int .i64 0), (.int .i64 0), (.str (⟨#[]⟩ : ByteArray))] [(0, 1, (.t 54)), (1, 1, (.t 56)), (2, 1, (.t 59))], none⟩,
  ⟨some 61, .callF 16 [(.t 52), (.t 60)], none⟩]
def r5_15 : List IOper := [⟨some 62, .mov (.t 6), none⟩,
  ⟨some 63, .bin .add (.t 62) (.c (.int .i64 1)), none⟩,
  ⟨some 6, .mov (.t 63), none⟩]
def r5_16 : List IOper := [⟨some 64, .mov (.t 8), none⟩,
  ⟨some 65, .fld 3 (.t 10), none⟩,
  ⟨some 66, .load none (.t 65), none⟩,
  ⟨some 67, .callF 21 [(.t 66), (.c (.int .i64 30))], none⟩,
  ⟨some 68, .buildS 1 1 [(.str (⟨#[]⟩ : ByteArray))] [(0, (.t 67))], none⟩,
  ⟨some 69, .app 1 16 (.t 64) (.t 68), none⟩,
  ⟨some 8, .mov (.t 69), none⟩]
def r5_17 : List IOper := [⟨some 71, .bin .eql (.t 40) (.c (.int .i64 1)), none⟩,
  ⟨some 70, .mov (.t 71), none⟩]
def r5_18 : List IOper := [⟨some 73, .mov (.t 5), none⟩,
  ⟨some 74, .fld 1 (.t 10), none⟩,
  ⟨some 75, .load none (.t 74), none⟩,
  ⟨some 76, .callF 22 [(.t 73), (.t 75)], none⟩,
  ⟨some 72, .mov (.t 76), none⟩,
  ⟨some 77, .ext (.t 72) 0, none⟩,
  ⟨some 78, .ext (.t 72) 1, none⟩,
  ⟨some 12, .alloc [(.int .i64 0), (.int .i64 0), (.str (⟨#[]⟩ : ByteArray))], none⟩,
  ⟨none, .store 3 (.t 12) (.t 77), none⟩,
  ⟨some 13, .mov (.t 78), none⟩]
def r5_19 : List IOper := [⟨some 79, .mov (.t 13), none⟩,
  ⟨some 80, .un .not (.t 79), none⟩,
  ⟨some 14, .mov (.t 80), none⟩]
def r5_20 : List IOper := [⟨some 81, .mov (.t 8), none⟩,
  ⟨some 82, .lenL (.t 81), none⟩,
  ⟨some 83, .mov (.c (.int .i64 0)), none⟩]
def r5_21 : List IOper := [⟨some 84, .bin .lss (.t 83) (.t 82), none⟩]
def r5_22 : List IOper := [⟨some 85, .ixS 1 (.t 81) (.t 83), none⟩,
  ⟨some 86, .load none (.t 85), none⟩,
  ⟨some 16, .mov (.t 86), none⟩]
def r5_23 : List IOper := [⟨some 87, .mov (.t 14), none⟩,
  ⟨some 88, .mov (.t 87), none⟩,
  ⟨some 89, .mov (.t 16), some (88, false)⟩,
  ⟨some 90, .fld 2 (.t 12), some (88, false)⟩,
  ⟨some 91, .load none (.t 90), some (88, false)⟩,
  ⟨some 92, .bin .eql (.t 89) (.t 91), some (88, false)⟩,
  ⟨some 93, .pick (.t 88) (.c (.bool true)) (.t 92), none⟩,
  ⟨some 14, .mov (.t 93), none⟩]
def r5_24 : List IOper := [⟨some 94, .bin .add (.t 83) (.c (.int .i64 1)), none⟩,
  ⟨some 83, .mov (.t 94), none⟩]
def r5_25 : List IOper := [⟨some 95, .mov (.t 14), none⟩,
  ⟨some 96, .un .not (.t 95), none⟩]
def r5_26 : List IOper := [⟨some 4, .mov (.c (.bool false)), none⟩]
def r5_27 : List IOper := [⟨some 97, .mov (.t 7), none⟩,
  ⟨some 98, .mov (.t 11), none⟩,
  ⟨some 99, .mov (.t 5), none⟩,
  ⟨some 100, .callF 20 [(.t 99)], none⟩,
  ⟨some 101, .bin .sub (.t 98) (.t 100), none⟩,
  ⟨some 102, .bin .add (.t 97) (.t 101), none⟩,
  ⟨some 7, .mov (.t 102), none⟩]
def r5_28 : List IOper := [⟨some 104, .bin .eql (.t 40) (.c (.int .i64 2)), none⟩,
  ⟨some 103, .mov (.t 104), none⟩]
def r5_29 : List IOper := [⟨some 105, .mov (.t 5), none⟩,
  ⟨some 106, .fld 1 (.t 10), none⟩,
  ⟨some 107, .load none (.t 106), none⟩,
  ⟨some 108, .callF 19 [(.t 105), (.t 107)], none⟩]
def r5_30 : List IOper := [⟨some 109, .mov (.t 7), none⟩,
  ⟨some 110, .mov (.t 11), none⟩,
  ⟨some 111, .mov (.t 5), none⟩,
  ⟨some 112, .callF 20 [(.t 111)], none⟩,
  ⟨some 113, .bin .sub (.t 110) (.t 112), none⟩,
  ⟨some 114, .bin .add (.t 109) (.t 113), none⟩,
  ⟨some 7, .mov (.t 114), none⟩]
def r5_31 : List IOper := [⟨some 116, .bin .eql (.t 40) (.c (.int .i64 3)), none⟩,
  ⟨some 115, .mov (.t 116), none⟩]
def r5_32 : List IOper := [⟨some 117, .mov (.t 5), none⟩,
  ⟨some 118, .fld 1 (.t 10), none⟩,
  ⟨some 119, .load none (.t 118), none⟩,
  ⟨some 120, .callF 17 [(.t 117), (.t 119)], none⟩]
def r5_33 : List IOper := [⟨some 121, .mov (.t 6), none⟩,
  ⟨some 122, .bin .add (.t 121) (.c (.int .i64 1)), none⟩,
  ⟨some 6, .mov (.t 122), none⟩]
def r5_34 : List IOper := [⟨some 124, .bin .eql (.t 40) (.c (.int .i64 4)), none⟩,
  ⟨some 123, .mov (.t 124), none⟩]
def r5_35 : List IOper := [⟨some 125, .mov (.t 5), none⟩,
  ⟨some 126, .fld 1 (.t 10), none⟩,
  ⟨some 127, .load none (.t 126), none⟩,
  ⟨some 128, .callF 18 [(.t 125), (.t 127)], none⟩]
def r5_36 : List IOper := [⟨some 41, .mov (.t 5), none⟩,
  ⟨some 42, .fld 1 (.t 10), none⟩,
  ⟨some 43, .load none (.t 42), none⟩,
  ⟨some 44, .fld 2 (.t 10), none⟩,
  ⟨some 45, .load none (.t 44), none⟩,
  ⟨some 46, .fld 0 (.t 10), none⟩,
  ⟨some 47, .load none (.t 46), none⟩,
  ⟨some 48, .bin .eql (.t 47) (.c (.int .i64 5)), none⟩,
  ⟨some 49, .callF 23 [(.t 41), (.t 43), (.t 45), (.t 48)], none⟩]
def r5_37 : List IOper := [⟨some 129, .mov (.t 5), none⟩,
  ⟨some 130, .callF 20 [(.t 129)], none⟩,
  ⟨some 131, .mov (.t 6), none⟩,
  ⟨some 132, .mov (.t 7), none⟩,
  ⟨some 133, .bin .sub (.t 131) (.t 132), none⟩,
  ⟨some 134, .bin .neq (.t 130) (.t 133), none⟩,
  ⟨some 135, .mov (.t 134), none⟩,
  ⟨some 136, .mov (.t 7), some (135, false)⟩,
  ⟨some 137, .bin .lss (.t 136) (.c (.int .i64 0)), some (135, false)⟩,
  ⟨some 138, .pick (.t 135) (.c (.bool true)) (.t 137), none⟩]
def r5_38 : List IOper := [⟨some 4, .mov (.c (.bool false)), none⟩]
def r5_39 : List IOper := [⟨some 31, .mov (.t 9), none⟩,
  ⟨some 32, .bin .add (.t 31) (.c (.int .i64 1)), none⟩,
  ⟨some 9, .mov (.t 32), none⟩]
def r5_40 : List IOper := [⟨some 4, .mov (.c (.bool true)), none⟩]
def b5 : ICode :=
 (.seq (.reg [(0, false)] r5_0)
 (.seq (.seq (.reg [(0, false), (1, false)] r5_1)
 (.cond (.t 18) (.seq (.reg [(0, false)] r5_2)
 .ret)
 .skip))
 (.seq (.reg [(0, false), (1, false), (2, false)] r5_3)
 (.seq (.seq (.reg [(0, false), (1, false)] r5_4)
 (.cond (.t 22) (.seq (.reg [(0, false)] r5_5)
 .ret)
 .skip))
 (.seq (.reg [(0, false), (1, false)] r5_6)
 (.seq (.reg [(0, false)] r5_7)
 (.seq (.seq (.reg [(0, false)] r5_8)
 (.seq (.block 0 (.loop (.seq (.mask [1, 5, 6, 7, 8, 9]) (.seq (.seq (.reg [(0, false), (1, false), (2, false), (3, false), (4, false), (5, false), (6, false), (7, false)] r5_9)
 (.cond (.t 30) .skip
 (.exit 0)))
 (.seq (.seq (.block 1 (.seq (.reg [(0, false), (1, false), (2, false), (3, false), (4, false), (5, false)] r5_10)
 (.seq (.reg [(0, false), (1, false), (2, false)] r5_11)
 (.seq (.seq (.reg [(0, false), (1, false)] r5_12)
 (.seq (.block 2 (.seq (.reg [(0, false), (1, false)] r5_13)
 (.seq (.cond (.t 50) (.seq (.reg [(0, false), (1, false), (2, false), (3, false), (4, false), (5, false), (6, false), (7, false), (2, true), (4, true), (8, false), (9, false)] r5_14)
 (.seq (.cond (.t 61) (.seq (.reg [(0, false), (1, false), (2, false)] r5_15)
 (.reg [(0, false), (1, false), (2, false), (3, false), (4, false), (5, false), (6, false)] r5_16))
 .skip) (.mask [1, 5, 6, 7, 8, 9])))
 (.seq (.reg [(0, false), (1, false)] r5_17)
 (.seq (.cond (.t 70) (.seq (.reg [(0, false), (1, false), (2, false), (3, false), (4, false), (5, false), (6, false), (7, false), (8, false), (9, false)] r5_18)
 (.seq (.reg [(0, false), (1, false), (2, false)] r5_19)
 (.seq (.seq (.reg [(0, false), (1, false), (2, false)] r5_20)
 (.seq (.block 3 (.loop (.seq (.mask [1, 5, 6, 7, 8, 9, 11, 12, 14, 81, 82, 83]) (.seq (.reg [(0, false)] r5_21)
 (.seq (.cond (.t 84) .skip
 (.exit 3))
 (.seq (.seq (.block 4 (.seq (.reg [(0, false), (1, false), (2, false)] r5_22)
 (.reg [(0, false), (1, false), (2, false), (3, false), (4, false), (5, false), (6, false), (7, false)] r5_23))) (.mask [1, 5, 6, 7, 8, 9, 11, 12, 14, 81, 82, 83]))
 (.reg [(0, false), (1, false)] r5_24))))))) (.mask [1, 5, 6, 7, 8, 9, 11, 14])))
 (.seq (.seq (.reg [(0, false), (1, false)] r5_25)
 (.cond (.t 96) (.seq (.reg [(0, false)] r5_26)
 .ret)
 .skip))
 (.reg [(0, false), (1, false), (2, false), (3, false), (4, false), (5, false), (6, false)] r5_27)))))
 (.seq (.reg [(0, false), (1, false)] r5_28)
 (.seq (.cond (.t 103) (.seq (.reg [(0, false), (1, false), (2, false), (3, false)] r5_29)
 (.reg [(0, false), (1, false), (2, false), (3, false), (4, false), (5, false), (6, false)] r5_30))
 (.seq (.reg [(0, false), (1, false)] r5_31)
 (.seq (.cond (.t 115) (.seq (.reg [(0, false), (1, false), (2, false), (3, false)] r5_32)
 (.seq (.cond (.t 120) (.reg [(0, false), (1, false), (2, false)] r5_33)
 .skip) (.mask [1, 5, 6, 7, 8, 9])))
 (.seq (.reg [(0, false), (1, false)] r5_34)
 (.seq (.cond (.t 123) (.reg [(0, false), (1, false), (2, false), (3, false)] r5_35)
 (.reg [(0, false), (1, false), (2, false), (3, false), (4, false), (5, false), (6, false), (7, false), (8, false)] r5_36)) (.mask [1, 5, 6, 7, 8, 9])))) (.mask [1, 5, 6, 7, 8, 9])))) (.mask [1, 5, 6, 7, 8, 9])))) (.mask [1, 5, 6, 7, 8, 9])))) (.mask [1, 5, 6, 7, 8, 9])))) (.mask [1, 5, 6, 7, 8, 9])))
 (.seq (.reg [(0, false), (1, false), (2, false), (3, false), (4, false), (5, false), (6, false), (7, false), (8, false), (9, false)] r5_37)
 (.cond (.t 138) (.seq (.reg [(0, false)] r5_38)
 .ret)
 .skip)))))) (.mask [1, 5, 6, 7, 8, 9]))
 (.reg [(0, false), (1, false), (2, false)] r5_39)))))) (.mask [])))
 (.seq (.reg [(0, false)] r5_40)
 .ret))))))))
def f5 : IFunc := { nt := 139, res := [((.t 4), none)], body := b5 }
def ps5 : List Phases := [⟨[([(0, false), (1, false), (2, false), (3, false), (4, false), (5, false), (6, false)], 7), ([(2, true), (4, true), (8, false)], 9)], []⟩]
def ms5 : List (Option (List Nat)) := [none, none, some [1, 5, 6, 7, 8, 9], none, some [1, 5, 6, 7, 8, 9], some [1, 5, 6, 7, 8, 9, 11, 12, 14, 81, 82, 83], none, some [1, 5, 6, 7, 8, 9, 11, 12, 14, 81, 82, 83], some [1, 5, 6, 7, 8, 9, 11, 14], none, some [1, 5, 6, 7, 8, 9], some [1, 5, 6, 7, 8, 9], some [1, 5, 6, 7, 8, 9], some [1, 5, 6, 7, 8, 9], some [1, 5, 6, 7, 8, 9], some [1, 5, 6, 7, 8, 9], some [1, 5, 6, 7, 8, 9], none, some [1, 5, 6, 7, 8, 9], some []]
-- chatelaine/chatelainelaw14.NetPlays
def r6_0 : List IOper := [⟨some 4, .mov (.c (.bool false)), none⟩]
def r6_1 : List IOper := [⟨some 11, .callF 14 [], none⟩,
  ⟨some 12, .un .not (.t 11), none⟩]
def r6_2 : List IOper := [⟨some 4, .mov (.c (.bool false)), none⟩]
def r6_3 : List IOper := [⟨some 13, .mov (.t 0), none⟩,
  ⟨some 14, .callF 15 [(.t 13)], none⟩,
  ⟨some 15, .mov (.t 0), none⟩,
  ⟨some 16, .mini [(.t 15), (.c (.int .i64 12))], none⟩,
  ⟨some 17, .maxi [(.c (.int .i64 0)), (.t 16)], none⟩,
  ⟨some 18, .build [(.int .i64 0), .nils, .nils] [(0, 1, (.t 17))], none⟩,
  ⟨some 6, .alloc [(.int .i64 0), .nils, .nils], none⟩,
  ⟨some 5, .mov (.t 14), none⟩,
  ⟨none, .store 3 (.t 6) (.t 18), none⟩]
def r6_4 : List IOper := [⟨some 19, .mov (.t 5), none⟩,
  ⟨some 20, .eqn 1 false (.t 19) (.c .nilp), none⟩]
def r6_5 : List IOper := [⟨some 4, .mov (.c (.bool false)), none⟩]
def r6_6 : List IOper := [⟨some 7, .mov (.c (.int .i64 0)), none⟩]
def r6_7 : List IOper := [⟨some 21, .mov (.t 7), none⟩,
  ⟨some 22, .mov (.t 1), none⟩,
  ⟨some 23, .lenL (.t 22), none⟩,
  ⟨some 24, .bin .lss (.t 21) (.t 23), none⟩,
  ⟨some 25, .mov (.t 24), none⟩,
  ⟨some 26, .mov (.t 7), some (25, true)⟩,
  ⟨some 27, .bin .lss (.t 26) (.c (.int .i64 40)), some (25, true)⟩,
  ⟨some 28, .pick (.t 25) (.t 27) (.c (.bool false)), none⟩]
def r6_8 : List IOper := [⟨some 31, .mov (.t 5), none⟩,
  ⟨some 32, .callF 24 [(.t 31)], none⟩,
  ⟨some 8, .mov (.t 32), none⟩]
def r6_9 : List IOper := [⟨some 34, .mov (.t 5), none⟩,
  ⟨some 35, .load (some 3) (.t 6), none⟩,
  ⟨some 36, .mov (.t 1), none⟩,
  ⟨some 37, .mov (.t 7), none⟩,
  ⟨some 38, .ixS 4 (.t 36) (.t 37), none⟩,
  ⟨some 39, .load (some 4) (.t 38), none⟩,
  ⟨some 40, .callF 25 [(.t 34), (.t 35), (.t 39)], none⟩,
  ⟨some 33, .mov (.t 40), none⟩,
  ⟨some 41, .ext (.t 33) 0, none⟩,
  ⟨some 42, .ext (.t 33) 1, none⟩,
  ⟨some 9, .alloc [(.int .i64 0), .nils, .nils], none⟩,
  ⟨none, .store 3 (.t 9) (.t 41), none⟩,
  ⟨some 10, .mov (.t 42), none⟩]
def r6_10 : List IOper := [⟨some 43, .mov (.t 10), none⟩,
  ⟨some 44, .un .not (.t 43), none⟩,
  ⟨some 45, .mov (.t 44), none⟩,
  ⟨some 46, .mov (.t 5), some (45, false)⟩,
  ⟨some 47, .load (some 3) (.t 9), some (45, false)⟩,
  ⟨some 48, .callF 26 [(.t 46), (.t 47)], some (45, false)⟩,
  ⟨some 49, .un .not (.t 48), some (45, false)⟩,
  ⟨some 50, .pick (.t 45) (.c (.bool true)) (.t 49), none⟩,
  ⟨some 51, .mov (.t 50), none⟩,
  ⟨some 52, .mov (.t 8), some (51, false)⟩,
  ⟨some 53, .load (some 3) (.t 6), some (51, false)⟩,
  ⟨some 54, .callF 26 [(.t 52), (.t 53)], some (51, false)⟩,
  ⟨some 55, .un .not (.t 54), some (51, false)⟩,
  ⟨some 56, .pick (.t 51) (.c (.bool true)) (.t 55), none⟩]
def r6_11 : List IOper := [⟨some 4, .mov (.c (.bool false)), none⟩]
def r6_12 : List IOper := [⟨some 57, .load (some 3) (.t 9), none⟩,
  ⟨none, .store 3 (.t 6) (.t 57), none⟩]
def r6_13 : List IOper := [⟨some 29, .mov (.t 7), none⟩,
  ⟨some 30, .bin .add (.t 29) (.c (.int .i64 1)), none⟩,
  ⟨some 7, .mov (.t 30), none⟩]
def r6_14 : List IOper := [⟨some 4, .mov (.c (.bool true)), none⟩]
def b6 : ICode :=
 (.seq (.reg [(0, false)] r6_0)
 (.seq (.seq (.reg [(0, false), (1, false)] r6_1)
 (.cond (.t 12) (.seq (.reg [(0, false)] r6_2)
 .ret)
 .skip))
 (.seq (.reg [(0, false), (1, false), (2, false), (3, false), (4, false), (5, false), (6, false), (7, false), (8, false)] r6_3)
 (.seq (.seq (.reg [(0, false), (1, false)] r6_4)
 (.cond (.t 20) (.seq (.reg [(0, false)] r6_5)
 .ret)
 .skip))
 (.seq (.seq (.reg [(0, false)] r6_6)
 (.seq (.block 0 (.loop (.seq (.mask [1, 5, 6, 7]) (.seq (.seq (.reg [(0, false), (1, false), (2, false), (3, false), (4, false), (5, false), (6, false), (7, false)] r6_7)
 (.cond (.t 28) .skip
 (.exit 0)))
 (.seq (.seq (.block 1 (.seq (.reg [(0, false), (1, false), (2, false)] r6_8)
 (.seq (.reg [(0, false), (1, false), (2, false), (3, false), (4, false), (5, false), (6, false), (7, false), (8, false), (9, false), (10, false), (11, false), (12, false)] r6_9)
 (.seq (.seq (.reg [(0, false), (1, false), (2, false), (3, false), (4, false), (5, false), (6, false), (7, false), (8, false), (9, false), (10, false), (11, false), (12, false), (13, false)] r6_10)
 (.cond (.t 56) (.seq (.reg [(0, false)] r6_11)
 .ret)
 .skip))
 (.reg [(0, false), (1, false)] r6_12))))) (.mask [1, 5, 6, 7]))
 (.reg [(0, false), (1, false), (2, false)] r6_13)))))) (.mask [])))
 (.seq (.reg [(0, false)] r6_14)
 .ret))))))
def f6 : IFunc := { nt := 58, res := [((.t 4), none)], body := b6 }
def ps6 : List Phases := [⟨[([(0, false), (1, false), (2, false), (3, false), (4, false), (5, false)], 6), ([(7, false), (8, false), (9, false), (10, false)], 11)], [(12, false)]⟩]
def ms6 : List (Option (List Nat)) := [none, none, some [1, 5, 6, 7], none, none, some [1, 5, 6, 7], some []]
-- chatelaine/chatelainelaw14.awake
def r14_0 : List IOper := [⟨some 0, .mov (.c (.bool false)), none⟩]
def r14_1 : List IOper := [⟨some 4, .callF 15 [(.c (.int .i64 2))], none⟩,
  ⟨some 1, .mov (.t 4), none⟩]
def r14_2 : List IOper := [⟨some 5, .mov (.t 1), none⟩,
  ⟨some 6, .eqn 1 false (.t 5) (.c .nilp), none⟩,
  ⟨some 7, .mov (.t 6), none⟩,
  ⟨some 8, .mov (.t 1), some (7, false)⟩,
  ⟨some 9, .build [(.int .i64 0), (.int .i64 0), (.str (⟨#[]⟩ : ByteArray))] [(0, 1, (.c (.int .i64 0))), (1, 1, (.c (.int .i64 1))), (2, 1, (.c (.str (⟨#[97]⟩ : ByteArray))))], some (7, false)⟩,
  ⟨some 10, .callF 16 [(.t 8), (.t 9)], some (7, false)⟩,
  ⟨some 11, .un .not (.t 10), some (7, false)⟩,
  ⟨some 12, .pick (.t 7) (.c (.bool true)) (.t 11), none⟩,
  ⟨some 13, .mov (.t 12), none⟩,
  ⟨some 14, .mov (.t 1), some (13, false)⟩,
  ⟨some 15, .build [(.int .i64 0), (.int .i64 0), (.str (⟨#[]⟩ : ByteArray))] [(0, 1, (.c (.int .i64 0))), (1, 1, (.c (.int .i64 1))), (2, 1, (.c (.str (⟨#[98]⟩ : ByteArray))))], some (13, false)⟩,
  ⟨some 16, .callF 16 [(.t 14), (.t 15)], some (13, false)⟩,
  ⟨some 17, .un .not (.t 16), some (13, false)⟩,
  ⟨some 18, .pick (.t 13) (.c (.bool true)) (.t 17), none⟩,
  ⟨some 19, .mov (.t 18), none⟩,
  ⟨some 20, .mov (.t 1), some (19, false)⟩,
  ⟨some 21, .callF 18 [(.t 20), (.c (.int .i64 0))], some (19, false)⟩,
  ⟨some 22, .un .not (.t 21), some (19, false)⟩,
  ⟨some 23, .pick (.t 19) (.c (.bool true)) (.t 22), none⟩]
def r14_3 : List IOper := [⟨some 0, .mov (.c (.bool false)), none⟩]
def r14_4 : List IOper := [⟨some 25, .mov (.t 1), none⟩,
  ⟨some 26, .callF 22 [(.t 25), (.c (.int .i64 0))], none⟩,
  ⟨some 24, .mov (.t 26), none⟩,
  ⟨some 27, .ext (.t 24) 0, none⟩,
  ⟨some 28, .ext (.t 24) 1, none⟩,
  ⟨some 2, .alloc [(.int .i64 0), (.int .i64 0), (.str (⟨#[]⟩ : ByteArray))], none⟩,
  ⟨none, .store 3 (.t 2) (.t 27), none⟩,
  ⟨some 3, .mov (.t 28), none⟩]
def r14_5 : List IOper := [⟨some 29, .mov (.t 3), none⟩,
  ⟨some 30, .mov (.t 29), none⟩,
  ⟨some 31, .fld 2 (.t 2), some (30, true)⟩,
  ⟨some 32, .load none (.t 31), some (30, true)⟩,
  ⟨some 33, .bin .eql (.t 32) (.c (.str (⟨#[98]⟩ : ByteArray))), some (30, true)⟩,
  ⟨some 34, .pick (.t 30) (.t 33) (.c (.bool false)), none⟩,
  ⟨some 35, .mov (.t 34), none⟩,
  ⟨some 36, .mov (.t 1), some (35, true)⟩,
  ⟨some 37, .callF 20 [(.t 36)], some (35, true)⟩,
  ⟨some 38, .bin .eql (.t 37) (.c (.int .i64 1)), some (35, true)⟩,
  ⟨some 39, .pick (.t 35) (.t 38) (.c (.bool false)), none⟩,
  ⟨some 0, .mov (.t 39), none⟩]
def b14 : ICode :=
 (.seq (.reg [(0, false)] r14_0)
 (.seq (.reg [(0, false), (1, false)] r14_1)
 (.seq (.seq (.reg [(0, false), (1, false), (2, false), (3, false), (4, false), (5, false), (6, false), (7, false), (8, false), (9, false), (10, false), (11, false), (12, false), (13, false), (14, false), (15, false), (16, false), (17, false), (18, false)] r14_2)
 (.cond (.t 23) (.seq (.reg [(0, false)] r14_3)
 .ret)
 .skip))
 (.seq (.reg [(0, false), (1, false), (2, false), (3, false), (4, false), (5, false), (6, false), (7, false)] r14_4)
 (.seq (.reg [(0, false), (1, false), (2, false), (3, false), (4, false), (5, false), (6, false), (7, false), (8, false), (9, false), (10, false), (11, false)] r14_5)
 .ret)))))
def f14 : IFunc := { nt := 40, res := [((.t 0), none)], body := b14 }
def ps14 : List Phases := []
def ms14 : List (Option (List Nat)) := [none]
-- chatelaine/net.New
def r15_0 : List IOper := [⟨some 2, .mov (.c .nilp), none⟩]
def r15_1 : List IOper := [⟨some 3, .mov (.t 0), none⟩,
  ⟨some 4, .mini [(.t 3), (.c (.int .i64 12))], none⟩,
  ⟨some 5, .maxi [(.c (.int .i64 0)), (.t 4)], none⟩,
  ⟨some 6, .build [(.int .i64 0), .nils, (.int .u32 0), (.int .u32 0), (.int .u32 0), (.int .u32 0), (.int .u32 0), (.int .u32 0), (.int .u32 0), (.int .u32 0), (.int .u32 0), (.int .u32 0), (.int .u32 0), (.int .u32 0)] [(0, 1, (.t 5))], none⟩,
  ⟨some 7, .box 14 (.t 6), none⟩,
  ⟨some 2, .mov (.t 7), none⟩]
def b15 : ICode :=
 (.seq (.reg [(0, false)] r15_0)
 (.seq (.reg [(0, false), (1, false), (2, false), (3, false), (4, false), (5, false)] r15_1)
 .ret))
def f15 : IFunc := { nt := 8, res := [((.t 2), none)], body := b15 }
def ps15 : List Phases := []
def ms15 : List (Option (List Nat)) := []
-- (*chatelaine/net.Net).Send
def r16_0 : List IOper := [⟨some 3, .box 3 (.t 1), none⟩,
  ⟨some 4, .mov (.c (.bool false)), none⟩]
def r16_1 : List IOper := [⟨some 5, .mov (.t 0), none⟩,
  ⟨some 6, .fld 0 (.t 3), none⟩,
  ⟨some 7, .load none (.t 6), none⟩,
  ⟨some 8, .fld 1 (.t 3), none⟩,
  ⟨some 9, .load none (.t 8), none⟩,
  ⟨some 10, .callF 64 [(.t 5), (.t 7), (.t 9)], none⟩,
  ⟨some 11, .un .not (.t 10), none⟩,
  ⟨some 12, .mov (.t 11), none⟩,
  ⟨some 13, .mov (.t 0), some (12, false)⟩,
  ⟨some 14, .nilck (.t 13), some (12, false)⟩,
  ⟨some 15, .fld 1 (.t 14), some (12, false)⟩,
  ⟨some 16, .load none (.t 15), some (12, false)⟩,
  ⟨some 17, .lenL (.t 16), some (12, false)⟩,
  ⟨some 18, .bin .geq (.t 17) (.c (.int .i64 4000)), some (12, false)⟩,
  ⟨some 19, .pick (.t 12) (.c (.bool true)) (.t 18), none⟩]
def r16_2 : List IOper := [⟨some 4, .mov (.c (.bool false)), none⟩]
def r16_3 : List IOper := [⟨some 20, .mov (.t 0), none⟩,
  ⟨some 21, .mov (.t 0), none⟩,
  ⟨some 22, .nilck (.t 21), none⟩,
  ⟨some 23, .fld 1 (.t 22), none⟩,
  ⟨some 24, .load none (.t 23), none⟩,
  ⟨some 25, .load (some 3) (.t 3), none⟩,
  ⟨some 26, .buildS 3 1 [(.int .i64 0), (.int .i64 0), (.str (⟨#[]⟩ : ByteArray))] [(0, (.t 25))], none⟩,
  ⟨some 27, .app 3 32 (.t 24) (.t 26), none⟩,
  ⟨some 28, .nilck (.t 20), none⟩,
  ⟨some 29, .fld 1 (.t 28), none⟩,
  ⟨none, .store 1 (.t 29) (.t 27), none⟩]
def r16_4 : List IOper := [⟨some 4, .mov (.c (.bool true)), none⟩]
def b16 : ICode :=
 (.seq (.reg [(0, false), (1, false)] r16_0)
 (.seq (.seq (.reg [(0, false), (1, false), (2, false), (3, false), (4, false), (5, false), (6, false), (7, false), (8, false), (9, false), (10, false), (11, false), (12, false), (13, false), (14, false)] r16_1)
 (.cond (.t 19) (.seq (.reg [(0, false)] r16_2)
 .ret)
 .skip))
 (.seq (.reg [(0, false), (1, false), (2, false), (3, false), (4, false), (5, false), (6, false), (7, false), (8, false), (9, false), (10, false)] r16_3)
 (.seq (.reg [(0, false)] r16_4)
 .ret))))
def f16 : IFunc := { nt := 30, res := [((.t 4), none)], body := b16 }
def ps16 : List Phases := [⟨[([(0, false), (1, false), (2, false), (3, false), (4, false), (5, false), (6, false)], 7), ([(8, false), (9, false)], 10)], []⟩]
def ms16 : List (Option (List Nat)) := [none]
-- (*chatelaine/net.Net).Again
def r17_0 : List IOper := [⟨some 4, .mov (.c (.bool false)), none⟩]
def r17_1 : List IOper := [⟨some 8, .mov (.t 0), none⟩,
  ⟨some 9, .mov (.t 1), none⟩,
  ⟨some 10, .callF 65 [(.t 8), (.t 9)], none⟩,
  ⟨some 7, .mov (.t 10), none⟩,
  ⟨some 11, .ext (.t 7) 0, none⟩,
  ⟨some 12, .ext (.t 7) 1, none⟩,
  ⟨some 5, .alloc [(.int .i64 0), (.int .i64 0), (.str (⟨#[]⟩ : ByteArray))], none⟩,
  ⟨none, .store 3 (.t 5) (.t 11), none⟩,
  ⟨some 6, .mov (.t 12), none⟩]
def r17_2 : List IOper := [⟨some 13, .mov (.t 6), none⟩,
  ⟨some 14, .mov (.t 13), none⟩,
  ⟨some 15, .mov (.t 0), some (14, true)⟩,
  ⟨some 16, .load (some 3) (.t 5), some (14, true)⟩,
  ⟨some 17, .callF 16 [(.t 15), (.t 16)], some (14, true)⟩,
  ⟨some 18, .pick (.t 14) (.t 17) (.c (.bool false)), none⟩,
  ⟨some 4, .mov (.t 18), none⟩]
def b17 : ICode :=
 (.seq (.reg [(0, false)] r17_0)
 (.seq (.reg [(0, false), (1, false), (2, false), (3, false), (4, false), (5, false), (6, false), (7, false), (8, false)] r17_1)
 (.seq (.reg [(0, false), (1, false), (2, false), (3, false), (4, false), (5, false), (6, false)] r17_2)
 .ret)))
def f17 : IFunc := { nt := 19, res := [((.t 4), none)], body := b17 }
def ps17 : List Phases := []
def ms17 : List (Option (List Nat)) := []
-- (*chatelaine/net.Net).Last
def r18_0 : List IOper := [⟨some 4, .mov (.c (.bool false)), none⟩]
def r18_1 : List IOper := [⟨some 8, .mov (.t 0), none⟩,
  ⟨some 9, .mov (.t 1), none⟩,
  ⟨some 10, .callF 65 [(.t 8), (.t 9)], none⟩,
  ⟨some 7, .mov (.t 10), none⟩,
  ⟨some 11, .ext (.t 7) 0, none⟩,
  ⟨some 12, .ext (.t 7) 1, none⟩,
  ⟨some 5, .alloc [(.int .i64 0), (.int .i64 0), (.str (⟨#[]⟩ : ByteArray))], none⟩,
  ⟨none, .store 3 (.t 5) (.t 11), none⟩,
  ⟨some 6, .mov (.t 12), none⟩]
def r18_2 : List IOper := [⟨some 13, .mov (.t 0), none⟩,
  ⟨some 14, .mov (.t 1), none⟩,
  ⟨some 15, .callF 19 [(.t 13), (.t 14)], none⟩,
  ⟨some 16, .mov (.t 15), none⟩,
  ⟨some 17, .mov (.t 6), some (16, true)⟩,
  ⟨some 18, .pick (.t 16) (.t 17) (.c (.bool false)), none⟩,
  ⟨some 19, .mov (.t 18), none⟩,
  ⟨some 20, .mov (.t 0), some (19, true)⟩,
  ⟨some 21, .load (some 3) (.t 5), some (19, true)⟩,
  ⟨some 22, .callF 16 [(.t 20), (.t 21)], some (19, true)⟩,
  ⟨some 23, .pick (.t 19) (.t 22) (.c (.bool false)), none⟩,
  ⟨some 4, .mov (.t 23), none⟩]
def b18 : ICode :=
 (.seq (.reg [(0, false)] r18_0)
 (.seq (.reg [(0, false), (1, false), (2, false), (3, false), (4, false), (5, false), (6, false), (7, false), (8, false)] r18_1)
 (.seq (.reg [(0, false), (1, false), (2, false), (3, false), (4, false), (5, false), (6, false), (7, false), (8, false), (9, false), (10, false), (11, false)] r18_2)
 .ret)))
def f18 : IFunc := { nt := 24, res := [((.t 4), none)], body := b18 }
def ps18 : List Phases := []
def ms18 : List (Option (List Nat)) := []
-- (*chatelaine/net.Net).Drop
def r19_0 : List IOper := [⟨some 4, .mov (.c (.bool false)), none⟩]
def r19_1 : List IOper := [⟨some 8, .mov (.t 0), none⟩,
  ⟨some 9, .mov (.t 1), none⟩,
  ⟨some 10, .callF 65 [(.t 8), (.t 9)], none⟩,
  ⟨some 7, .mov (.t 10), none⟩,
  ⟨some 11, .ext (.t 7) 0, none⟩,
  ⟨some 12, .ext (.t 7) 1, none⟩,
  ⟨some 5, .alloc [(.int .i64 0), (.int .i64 0), (.str (⟨#[]⟩ : ByteArray))], none⟩,
  ⟨none, .store 3 (.t 5) (.t 11), none⟩,
  ⟨some 6, .mov (.t 12), none⟩]
def r19_2 : List IOper := [⟨some 13, .mov (.t 6), none⟩]
def r19_3 : List IOper := [⟨some 14, .mov (.t 0), none⟩,
  ⟨some 15, .mov (.t 0), none⟩,
  ⟨some 16, .nilck (.t 15), none⟩,
  ⟨some 17, .fld 1 (.t 16), none⟩,
  ⟨some 18, .load none (.t 17), none⟩,
  ⟨some 19, .callF 67 [(.t 18)], none⟩,
  ⟨some 20, .mov (.t 1), none⟩,
  ⟨some 21, .mov (.t 1), none⟩,
  ⟨some 22, .bin .add (.t 21) (.c (.int .i64 1)), none⟩,
  ⟨some 23, .callF 66 [(.t 19), (.t 20), (.t 22)], none⟩,
  ⟨some 24, .nilck (.t 14), none⟩,
  ⟨some 25, .fld 1 (.t 24), none⟩,
  ⟨none, .store 1 (.t 25) (.t 23), none⟩]
def r19_4 : List IOper := [⟨some 26, .mov (.t 6), none⟩,
  ⟨some 4, .mov (.t 26), none⟩]
def b19 : ICode :=
 (.seq (.reg [(0, false)] r19_0)
 (.seq (.reg [(0, false), (1, false), (2, false), (3, false), (4, false), (5, false), (6, false), (7, false), (8, false)] r19_1)
 (.seq (.seq (.reg [(0, false)] r19_2)
 (.seq (.cond (.t 13) (.reg [(0, false), (1, false), (2, false), (3, false), (4, false), (5, false), (6, false), (7, false), (8, false), (9, false), (10, false), (11, false), (12, false)] r19_3)
 .skip) (.mask [6])))
 (.seq (.reg [(0, false), (1, false)] r19_4)
 .ret))))
def f19 : IFunc := { nt := 27, res := [((.t 4), none)], body := b19 }
def ps19 : List Phases := []
def ms19 : List (Option (List Nat)) := [some [6]]
-- (*chatelaine/net.Net).Len
def r20_0 : List IOper := [⟨some 2, .mov (.c (.int .i64 0)), none⟩]
def r20_1 : List IOper := [⟨some 3, .mov (.t 0), none⟩,
  ⟨some 4, .nilck (.t 3), none⟩,
  ⟨some 5, .fld 1 (.t 4), none⟩,
  ⟨some 6, .load none (.t 5), none⟩,
  ⟨some 7, .lenL (.t 6), none⟩,
  ⟨some 2, .mov (.t 7), none⟩]
def b20 : ICode :=
 (.seq (.reg [(0, false)] r20_0)
 (.seq (.reg [(0, false), (1, false), (2, false), (3, false), (4, false), (5, false)] r20_1)
 .ret))
def f20 : IFunc := { nt := 8, res := [((.t 2), none)], body := b20 }
def ps20 : List Phases := []
def ms20 : List (Option (List Nat)) := []
-- chatelaine/chatelainelaw01.Cut
def r21_0 : List IOper := [⟨some 4, .mov (.c (.str (⟨#[]⟩ : ByteArray))), none⟩]
def r21_1 : List IOper := [⟨some 5, .mov (.t 0), none⟩,
  ⟨some 6, .lenS (.t 5), none⟩,
  ⟨some 7, .mov (.t 1), none⟩,
  ⟨some 8, .bin .gtr (.t 6) (.t 7), none⟩]
def r21_2 : List IOper := [⟨some 9, .mov (.t 0), none⟩,
  ⟨some 10, .mov (.t 1), none⟩,
  ⟨some 11, .slcStr (.t 9) none (some (.t 10)), none⟩,
  ⟨some 4, .mov (.t 11), none⟩]
def r21_3 : List IOper := [⟨some 12, .mov (.t 0), none⟩,
  ⟨some 4, .mov (.t 12), none⟩]
def b21 : ICode :=
 (.seq (.reg [(0, false)] r21_0)
 (.seq (.seq (.reg [(0, false), (1, false), (2, false), (3, false)] r21_1)
 (.cond (.t 8) (.seq (.reg [(0, false), (1, false), (2, false), (3, false)] r21_2)
 .ret)
 .skip))
 (.seq (.reg [(0, false), (1, false)] r21_3)
 .ret)))
def f21 : IFunc := { nt := 13, res := [((.t 4), none)], body := b21 }
def ps21 : List Phases := []
def ms21 : List (Option (List Nat)) := [none]
-- (*chatelaine/net.Net).Take
def r22_0 : List IOper := [⟨some 4, .alloc [(.int .i64 0), (.int .i64 0), (.str (⟨#[]⟩ : ByteArray))], none⟩,
  ⟨some 5, .mov (.c (.bool false)), none⟩]
def r22_1 : List IOper := [⟨some 9, .mov (.t 0), none⟩,
  ⟨some 10, .mov (.t 1), none⟩,
  ⟨some 11, .callF 65 [(.t 9), (.t 10)], none⟩,
  ⟨some 8, .mov (.t 11), none⟩,
  ⟨some 12, .ext (.t 8) 0, none⟩,
  ⟨some 13, .ext (.t 8) 1, none⟩,
  ⟨some 6, .alloc [(.int .i64 0), (.int .i64 0), (.str (⟨#[]⟩ : ByteArray))], none⟩,
  ⟨none, .store 3 (.t 6) (.t 12), none⟩,
  ⟨some 7, .mov (.t 13), none⟩]
def r22_2 : List IOper := [⟨some 14, .mov (.t 0), none⟩,
  ⟨some 15, .mov (.t 1), none⟩,
  ⟨some 16, .callF 19 [(.t 14), (.t 15)], none⟩,
  ⟨some 17, .un .not (.t 16), none⟩,
  ⟨some 18, .mov (.t 17), none⟩,
  ⟨some 19, .mov (.t 7), some (18, false)⟩,
  ⟨some 20, .un .not (.t 19), some (18, false)⟩,
  ⟨some 21, .pick (.t 18) (.c (.bool true)) (.t 20), none⟩,
  ⟨some 22, .mov (.t 21), none⟩,
  ⟨some 23, .mov (.t 0), some (22, false)⟩,
  ⟨some 24, .fld 0 (.t 6), some (22, false)⟩,
  ⟨some 25, .load none (.t 24), some (22, false)⟩,
  ⟨some 26, .fld 1 (.t 6), some (22, false)⟩,
  ⟨some 27, .load none (.t 26), some (22, false)⟩,
  ⟨some 28, .callF 68 [(.t 23), (.t 25), (.t 27)], some (22, false)⟩,
  ⟨some 29, .pick (.t 22) (.c (.bool true)) (.t 28), none⟩]
def r22_3 : List IOper := [⟨some 30, .build [(.int .i64 0), (.int .i64 0), (.str (⟨#[]⟩ : ByteArray))] [], none⟩,
  ⟨none, .store 3 (.t 4) (.t 30), none⟩,
  ⟨some 5, .mov (.c (.bool false)), none⟩]
def r22_4 : List IOper := [⟨some 31, .load (some 3) (.t 6), none⟩,
  ⟨none, .store 3 (.t 4) (.t 31), none⟩,
  ⟨some 5, .mov (.c (.bool true)), none⟩]
def b22 : ICode :=
 (.seq (.reg [(0, false), (1, false)] r22_0)
 (.seq (.reg [(0, false), (1, false), (2, false), (3, false), (4, false), (5, false), (6, false), (7, false), (8, false)] r22_1)
 (.seq (.seq (.reg [(0, false), (1, false), (2, false), (3, false), (4, false), (5, false), (6, false), (7, false), (8, false), (9, false), (10, false), (11, false), (12, false), (13, false), (14, false), (15, false)] r22_2)
 (.cond (.t 29) (.seq (.reg [(0, false), (1, false), (2, false)] r22_3)
 .ret)
 .skip))
 (.seq (.reg [(0, false), (1, false), (2, false)] r22_4)
 .ret))))
def f22 : IFunc := { nt := 32, res := [((.t 4), some (some 3)), ((.t 5), none)], body := b22 }
def ps22 : List Phases := []
def ms22 : List (Option (List Nat)) := [none]
-- (*chatelaine/net.Net).Cut
def r23_0 : List IOper := [⟨some 21, .mov (.t 0), none⟩,
  ⟨some 22, .mov (.t 1), none⟩,
  ⟨some 23, .mov (.t 2), none⟩,
  ⟨some 24, .callF 64 [(.t 21), (.t 22), (.t 23)], none⟩,
  ⟨some 25, .un .not (.t 24), none⟩,
  ⟨some 20, .mov (.t 25), none⟩]
def r23_1 : List IOper := [⟨some 27, .mov (.t 3), none⟩,
  ⟨some 26, .mov (.t 27), none⟩]
def r23_2 : List IOper := [⟨some 28, .mov (.t 0), none⟩,
  ⟨some 29, .mov (.t 1), none⟩,
  ⟨some 30, .nilck (.t 28), none⟩,
  ⟨some 31, .fld 2 (.t 30), none⟩,
  ⟨some 32, .ixA 12 1 (.t 31) (.t 29), none⟩,
  ⟨some 33, .load none (.t 32), none⟩,
  ⟨some 34, .mov (.t 2), none⟩,
  ⟨some 35, .bin .shl (.c (.int .u32 1)) (.t 34), none⟩,
  ⟨some 36, .bin .or (.t 33) (.t 35), none⟩,
  ⟨some 37, .nilck (.t 28), none⟩,
  ⟨some 38, .fld 2 (.t 37), none⟩,
  ⟨some 39, .ixA 12 1 (.t 38) (.t 29), none⟩,
  ⟨none, .store 1 (.t 39) (.t 36), none⟩]
def r23_3 : List IOper := [⟨some 8, .mov (.t 0), none⟩,
  ⟨some 9, .mov (.t 1), none⟩,
  ⟨some 10, .nilck (.t 8), none⟩,
  ⟨some 11, .fld 2 (.t 10), none⟩,
  ⟨some 12, .ixA 12 1 (.t 11) (.t 9), none⟩,
  ⟨some 13, .load none (.t 12), none⟩,
  ⟨some 14, .mov (.t 2), none⟩,
  ⟨some 15, .bin .shl (.c (.int .u32 1)) (.t 14), none⟩,
  ⟨some 16, .bin .andNot (.t 13) (.t 15), none⟩,
  ⟨some 17, .nilck (.t 8), none⟩,
  ⟨some 18, .fld 2 (.t 17), none⟩,
  ⟨some 19, .ixA 12 1 (.t 18) (.t 9), none⟩,
  ⟨none, .store 1 (.t 19) (.t 16), none⟩]
def b23 : ICode :=
 (.seq (.block 0 (.seq (.reg [(0, false), (1, false), (2, false), (3, false), (4, false), (5, false)] r23_0)
 (.seq (.cond (.t 20) .skip
 (.seq (.reg [(0, false), (1, false)] r23_1)
 (.seq (.cond (.t 26) (.reg [(0, false), (1, false), (2, false), (3, false), (4, false), (5, false), (6, false), (7, false), (8, false), (9, false), (10, false), (11, false), (12, false)] r23_2)
 (.reg [(0, false), (1, false), (2, false), (3, false), (4, false), (5, false), (6, false), (7, false), (8, false), (9, false), (10, false), (11, false), (12, false)] r23_3)) (.mask [])))) (.mask [])))) (.mask []))
def f23 : IFunc := { nt := 40, res := [], body := b23 }
def ps23 : List Phases := [⟨[([(0, false), (1, false), (2, false), (3, false), (4, false), (5, false), (6, false), (7, false), (8, false), (9, false), (10, false), (11, false)], 12)], []⟩, ⟨[([(0, false), (1, false), (2, false), (3, false), (4, false), (5, false), (6, false), (7, false), (8, false), (9, false), (10, false), (11, false)], 12)], []⟩]
def ms23 : List (Option (List Nat)) := [some [], some [], some []]
-- (*chatelaine/net.Net).Clone
def r24_0 : List IOper := [⟨some 2, .mov (.c .nilp), none⟩]
def r24_1 : List IOper := [⟨some 4, .mov (.t 0), none⟩,
  ⟨some 5, .nilck (.t 4), none⟩,
  ⟨some 6, .load (some 14) (.t 5), none⟩,
  ⟨some 3, .alloc [(.int .i64 0), .nils, (.int .u32 0), (.int .u32 0), (.int .u32 0), (.int .u32 0), (.int .u32 0), (.int .u32 0), (.int .u32 0), (.int .u32 0), (.int .u32 0), (.int .u32 0), (.int .u32 0), (.int .u32 0)], none⟩,
  ⟨none, .store 14 (.t 3) (.t 6), none⟩]
def r24_2 : List IOper := [⟨some 7, .mov (.t 0), none⟩,
  ⟨some 8, .nilck (.t 7), none⟩,
  ⟨some 9, .fld 1 (.t 8), none⟩,
  ⟨some 10, .load none (.t 9), none⟩,
  ⟨some 11, .callF 67 [(.t 10)], none⟩,
  ⟨some 12, .fld 1 (.t 3), none⟩,
  ⟨none, .store 1 (.t 12) (.t 11), none⟩]
def r24_3 : List IOper := [⟨some 2, .mov (.t 3), none⟩]
def b24 : ICode :=
 (.seq (.reg [(0, false)] r24_0)
 (.seq (.reg [(0, false), (1, false), (2, false), (3, false), (4, false)] r24_1)
 (.seq (.reg [(0, false), (1, false), (2, false), (3, false), (4, false), (5, false), (6, false)] r24_2)
 (.seq (.reg [(0, false)] r24_3)
 .ret))))
def f24 : IFunc := { nt := 13, res := [((.t 2), none)], body := b24 }
def ps24 : List Phases := []
def ms24 : List (Option (List Nat)) := []
-- chatelaine/chatelainelaw14.do
def r25_0 : List IOper := [⟨some 4, .box 3 (.t 1), none⟩,
  ⟨some 5, .box 4 (.t 2), none⟩,
  ⟨some 6, .alloc [(.int .i64 0), .nils, .nils], none⟩,
  ⟨some 7, .mov (.c (.bool false)), none⟩]
def r25_1 : List IOper := [⟨some 18, .fld 1 (.t 5), none⟩,
  ⟨some 19, .load none (.t 18), none⟩,
  ⟨some 20, .bin .geq (.t 19) (.c (.int .i64 0)), none⟩,
  ⟨some 21, .mov (.t 20), none⟩,
  ⟨some 22, .fld 1 (.t 5), some (21, true)⟩,
  ⟨some 23, .load none (.t 22), some (21, true)⟩,
  ⟨some 24, .fld 1 (.t 4), some (21, true)⟩,
  ⟨some 25, .load none (.t 24), some (21, true)⟩,
  ⟨some 26, .lenL (.t 25), some (21, true)⟩,
  ⟨some 27, .bin .lss (.t 23) (.t 26), some (21, true)⟩,
  ⟨some 28, .pick (.t 21) (.t 27) (.c (.bool false)), none⟩,
  ⟨some 8, .mov (.t 28), none⟩]
def r25_2 : List IOper := [⟨some 29, .build [(.int .i64 0), (.int .i64 0), (.str (⟨#[]⟩ : ByteArray))] [], none⟩,
  ⟨some 9, .alloc [(.int .i64 0), (.int .i64 0), (.str (⟨#[]⟩ : ByteArray))], none⟩,
  ⟨none, .store 3 (.t 9) (.t 29), none⟩]
def r25_3 : List IOper := [⟨some 30, .mov (.t 8), none⟩]
def r25_4 : List IOper := [⟨some 31, .fld 1 (.t 4), none⟩,
  ⟨some 32, .load none (.t 31), none⟩,
  ⟨some 33, .fld 1 (.t 5), none⟩,
  ⟨some 34, .load none (.t 33), none⟩,
  ⟨some 35, .ixS 3 (.t 32) (.t 34), none⟩,
  ⟨some 36, .load (some 3) (.t 35), none⟩,
  ⟨none, .store 3 (.t 9) (.t 36), none⟩]
def r25_5 : List IOper := [⟨some 37, .fld 0 (.t 5), none⟩,
  ⟨some 38, .load none (.t 37), none⟩]
def r25_6 : List IOper := [⟨some 40, .bin .eql (.t 38) (.c (.int .i64 0)), none⟩,
  ⟨some 39, .mov (.t 40), none⟩]
def r25_7 : List IOper := [⟨some 41, .fld 1 (.t 5), none⟩,
  ⟨some 42, .load none (.t 41), none⟩,
  ⟨some 43, .fld 2 (.t 5), none⟩,
  ⟨some 44, .load none (.t 43), none⟩,
  ⟨some 45, .fld 3 (.t 5), none⟩,
  ⟨some 46, .load none (.t 45), none⟩,
  ⟨some 47, .callF 21 [(.t 46), (.c (.int .i64 30))], none⟩,
  ⟨some 48, .build [(.int .i64 0), (.int .i64 0), (.str (⟨#[]⟩ : ByteArray))] [(0, 1, (.t 42)), (1, 1, (.t 44)), (2, 1, (.t 47))], none⟩,
  ⟨some 10, .alloc [(.int .i64 0), (.int .i64 0), (.str (⟨#[]⟩ : ByteArray))], none⟩,
  ⟨none, .store 3 (.t 10) (.t 48), none⟩]
def r25_8 : List IOper := [⟨some 50, .load (some 3) (.t 4), none⟩,
  ⟨some 51, .load (some 3) (.t 10), none⟩,
  ⟨some 52, .callF 69 [(.t 50), (.t 51)], none⟩,
  ⟨some 49, .mov (.t 52), none⟩,
  ⟨some 53, .ext (.t 49) 0, none⟩,
  ⟨some 54, .ext (.t 49) 1, none⟩,
  ⟨some 11, .alloc [(.int .i64 0), .nils, .nils], none⟩,
  ⟨none, .store 3 (.t 11) (.t 53), none⟩,
  ⟨some 12, .mov (.t 54), none⟩]
def r25_9 : List IOper := [⟨some 55, .load (some 3) (.t 11), none⟩,
  ⟨some 56, .mov (.t 0), none⟩,
  ⟨some 57, .load (some 3) (.t 10), none⟩,
  ⟨some 58, .callF 16 [(.t 56), (.t 57)], none⟩,
  ⟨some 59, .mov (.t 12), none⟩,
  ⟨some 60, .eqn 0 false (.t 58) (.t 59), none⟩,
  ⟨none, .store 3 (.t 6) (.t 55), none⟩,
  ⟨some 7, .mov (.t 60), none⟩]
def r25_10 : List IOper := [⟨some 62, .bin .eql (.t 38) (.c (.int .i64 1)), none⟩,
  ⟨some 61, .mov (.t 62), none⟩]
def r25_11 : List IOper := [⟨some 64, .mov (.t 0), none⟩,
  ⟨some 65, .fld 1 (.t 5), none⟩,
  ⟨some 66, .load none (.t 65), none⟩,
  ⟨some 67, .callF 22 [(.t 64), (.t 66)], none⟩,
  ⟨some 63, .mov (.t 67), none⟩,
  ⟨some 68, .ext (.t 63) 0, none⟩,
  ⟨some 69, .ext (.t 63) 1, none⟩,
  ⟨some 13, .alloc [(.int .i64 0), (.int .i64 0), (.str (⟨#[]⟩ : ByteArray))], none⟩,
  ⟨none, .store 3 (.t 13) (.t 68), none⟩,
  ⟨some 14, .mov (.t 69), none⟩]
def r25_12 : List IOper := [⟨some 70, .mov (.t 8), none⟩,
  ⟨some 71, .mov (.t 70), none⟩,
  ⟨some 72, .load (some 3) (.t 4), some (71, true)⟩,
  ⟨some 73, .fld 0 (.t 9), some (71, true)⟩,
  ⟨some 74, .load none (.t 73), some (71, true)⟩,
  ⟨some 75, .fld 1 (.t 9), some (71, true)⟩,
  ⟨some 76, .load none (.t 75), some (71, true)⟩,
  ⟨some 77, .callF 70 [(.t 72), (.t 74), (.t 76)], some (71, true)⟩,
  ⟨some 78, .un .not (.t 77), some (71, true)⟩,
  ⟨some 79, .pick (.t 71) (.t 78) (.c (.bool false)), none⟩,
  ⟨some 15, .mov (.t 79), none⟩]
def r25_13 : List IOper := [⟨some 80, .mov (.t 8), none⟩]
def r25_14 : List IOper := [⟨some 81, .load (some 3) (.t 4), none⟩,
  ⟨some 82, .fld 1 (.t 5), none⟩,
  ⟨some 83, .load none (.t 82), none⟩,
  ⟨some 84, .callF 71 [(.t 81), (.t 83)], none⟩,
  ⟨none, .store 3 (.t 4) (.t 84), none⟩]
def r25_15 : List IOper := [⟨some 85, .mov (.t 15), none⟩,
  ⟨some 86, .un .not (.t 85), none⟩]
def r25_16 : List IOper := [⟨some 87, .load (some 3) (.t 4), none⟩,
  ⟨some 88, .mov (.t 14), none⟩,
  ⟨some 89, .un .not (.t 88), none⟩,
  ⟨some 90, .mov (.t 89), none⟩,
  ⟨some 91, .load (some 3) (.t 13), some (90, true)⟩,
  ⟨some 92, .build [(.int .i64 0), (.int .i64 0), (.str (⟨#[]⟩ : ByteArray))] [], some (90, true)⟩,
  ⟨some 93, .eqs false [1, 1, 2] (.t 91) (.t 92), some (90, true)⟩,
  ⟨some 94, .pick (.t 90) (.t 93) (.c (.bool false)), none⟩,
  ⟨none, .store 3 (.t 6) (.t 87), none⟩,
  ⟨some 7, .mov (.t 94), none⟩]
def r25_17 : List IOper := [⟨some 95, .load (some 3) (.t 4), none⟩,
  ⟨some 96, .mov (.t 14), none⟩,
  ⟨some 97, .mov (.t 96), none⟩,
  ⟨some 98, .load (some 3) (.t 13), some (97, true)⟩,
  ⟨some 99, .load (some 3) (.t 9), some (97, true)⟩,
  ⟨some 100, .eqs false [1, 1, 2] (.t 98) (.t 99), some (97, true)⟩,
  ⟨some 101, .pick (.t 97) (.t 100) (.c (.bool false)), none⟩,
  ⟨none, .store 3 (.t 6) (.t 95), none⟩,
  ⟨some 7, .mov (.t 101), none⟩]
def r25_18 : List IOper := [⟨some 103, .bin .eql (.t 38) (.c (.int .i64 2)), none⟩,
  ⟨some 102, .mov (.t 103), none⟩]
def r25_19 : List IOper := [⟨some 104, .mov (.t 8), none⟩]
def r25_20 : List IOper := [⟨some 105, .load (some 3) (.t 4), none⟩,
  ⟨some 106, .fld 1 (.t 5), none⟩,
  ⟨some 107, .load none (.t 106), none⟩,
  ⟨some 108, .callF 71 [(.t 105), (.t 107)], none⟩,
  ⟨none, .store 3 (.t 4) (.t 108), none⟩]
def r25_21 : List IOper := [⟨some 109, .load (some 3) (.t 4), none⟩,
  ⟨some 110, .mov (.t 0), none⟩,
  ⟨some 111, .fld 1 (.t 5), none⟩,
  ⟨some 112, .load none (.t 111), none⟩,
  ⟨some 113, .callF 19 [(.t 110), (.t 112)], none⟩,
  ⟨some 114, .mov (.t 8), none⟩,
  ⟨some 115, .eqn 0 false (.t 113) (.t 114), none⟩,
  ⟨none, .store 3 (.t 6) (.t 109), none⟩,
  ⟨some 7, .mov (.t 115), none⟩]
def r25_22 : List IOper := [⟨some 117, .bin .eql (.t 38) (.c (.int .i64 3)), none⟩,
  ⟨some 116, .mov (.t 117), none⟩]
def r25_23 : List IOper := [⟨some 118, .load (some 3) (.t 4), none⟩,
  ⟨some 16, .alloc [(.int .i64 0), .nils, .nils], none⟩,
  ⟨none, .store 3 (.t 16) (.t 118), none⟩,
  ⟨some 17, .mov (.c (.bool false)), none⟩]
def r25_24 : List IOper := [⟨some 119, .mov (.t 8), none⟩]
def r25_25 : List IOper := [⟨some 121, .load (some 3) (.t 4), none⟩,
  ⟨some 122, .load (some 3) (.t 9), none⟩,
  ⟨some 123, .callF 69 [(.t 121), (.t 122)], none⟩,
  ⟨some 120, .mov (.t 123), none⟩,
  ⟨some 124, .ext (.t 120) 0, none⟩,
  ⟨some 125, .ext (.t 120) 1, none⟩,
  ⟨none, .store 3 (.t 16) (.t 124), none⟩,
  ⟨some 17, .mov (.t 125), none⟩]
def r25_26 : List IOper := [⟨some 126, .load (some 3) (.t 16), none⟩,
  ⟨some 127, .mov (.t 0), none⟩,
  ⟨some 128, .fld 1 (.t 5), none⟩,
  ⟨some 129, .load none (.t 128), none⟩,
  ⟨some 130, .callF 17 [(.t 127), (.t 129)], none⟩,
  ⟨some 131, .mov (.t 17), none⟩,
  ⟨some 132, .eqn 0 false (.t 130) (.t 131), none⟩,
  ⟨none, .store 3 (.t 6) (.t 126), none⟩,
  ⟨some 7, .mov (.t 132), none⟩]
def r25_27 : List IOper := [⟨some 134, .bin .eql (.t 38) (.c (.int .i64 4)), none⟩,
  ⟨some 133, .mov (.t 134), none⟩]
def r25_28 : List IOper := [⟨some 135, .mov (.t 8), none⟩]
def r25_29 : List IOper := [⟨some 137, .load (some 3) (.t 4), none⟩,
  ⟨some 138, .fld 1 (.t 5), none⟩,
  ⟨some 139, .load none (.t 138), none⟩,
  ⟨some 140, .callF 71 [(.t 137), (.t 139)], none⟩,
  ⟨some 141, .load (some 3) (.t 9), none⟩,
  ⟨some 142, .callF 69 [(.t 140), (.t 141)], none⟩,
  ⟨some 136, .mov (.t 142), none⟩,
  ⟨some 143, .ext (.t 136) 0, none⟩,
  ⟨some 144, .ext (.t 136) 1, none⟩,
  ⟨none, .store 3 (.t 4) (.t 143), none⟩]
def r25_30 : List IOper := [⟨some 145, .load (some 3) (.t 4), none⟩,
  ⟨some 146, .mov (.t 0), none⟩,
  ⟨some 147, .fld 1 (.t 5), none⟩,
  ⟨some 148, .load none (.t 147), none⟩,
  ⟨some 149, .callF 18 [(.t 146), (.t 148)], none⟩,
  ⟨some 150, .mov (.t 8), none⟩,
  ⟨some 151, .eqn 0 false (.t 149) (.t 150), none⟩,
  ⟨none, .store 3 (.t 6) (.t 145), none⟩,
  ⟨some 7, .mov (.t 151), none⟩]
def r25_31 : List IOper := [⟨some 153, .bin .eql (.t 38) (.c (.int .i64 5)), none⟩,
  ⟨some 152, .mov (.t 153), none⟩]
def r25_32 : List IOper := [⟨some 154, .bin .eql (.t 38) (.c (.int .i64 6)), none⟩,
  ⟨some 152, .mov (.t 154), none⟩]
def r25_33 : List IOper := [⟨some 155, .mov (.t 0), none⟩,
  ⟨some 156, .fld 1 (.t 5), none⟩,
  ⟨some 157, .load none (.t 156), none⟩,
  ⟨some 158, .fld 2 (.t 5), none⟩,
  ⟨some 159, .load none (.t 158), none⟩,
  ⟨some 160, .fld 0 (.t 5), none⟩,
  ⟨some 161, .load none (.t 160), none⟩,
  ⟨some 162, .bin .eql (.t 161) (.c (.int .i64 5)), none⟩,
  ⟨some 163, .callF 23 [(.t 155), (.t 157), (.t 159), (.t 162)], none⟩]
def r25_34 : List IOper := [⟨some 164, .load (some 3) (.t 4), none⟩,
  ⟨some 165, .fld 1 (.t 5), none⟩,
  ⟨some 166, .load none (.t 165), none⟩,
  ⟨some 167, .fld 2 (.t 5), none⟩,
  ⟨some 168, .load none (.t 167), none⟩,
  ⟨some 169, .fld 0 (.t 5), none⟩,
  ⟨some 170, .load none (.t 169), none⟩,
  ⟨some 171, .bin .eql (.t 170) (.c (.int .i64 5)), none⟩,
  ⟨some 172, .callF 72 [(.t 164), (.t 166), (.t 168), (.t 171)], none⟩,
  ⟨none, .store 3 (.t 4) (.t 172), none⟩]
def r25_35 : List IOper := [⟨some 174, .bin .eql (.t 38) (.c (.int .i64 7)), none⟩,
  ⟨some 173, .mov (.t 174), none⟩]
def r25_36 : List IOper := [⟨some 175, .mov (.t 0), none⟩,
  ⟨some 176, .callF 73 [(.t 175)], none⟩]
def r25_37 : List IOper := [⟨some 177, .fld 2 (.t 4), none⟩,
  ⟨none, .store 1 (.t 177) (.c .nils), none⟩]
def r25_38 : List IOper := [⟨some 178, .load (some 3) (.t 4), none⟩,
  ⟨none, .store 3 (.t 6) (.t 178), none⟩,
  ⟨some 7, .mov (.c (.bool true)), none⟩]
def b25 : ICode :=
 (.seq (.reg [(0, false), (1, false), (2, false), (3, false)] r25_0)
 (.seq (.reg [(0, false), (1, false), (2, false), (3, false), (4, false), (5, false), (6, false), (7, false), (8, false), (9, false), (10, false), (11, false)] r25_1)
 (.seq (.reg [(0, false), (1, false), (2, false)] r25_2)
 (.seq (.seq (.reg [(0, false)] r25_3)
 (.seq (.cond (.t 30) (.reg [(0, false), (1, false), (2, false), (3, false), (4, false), (5, false), (6, false)] r25_4)
 .skip) (.mask [0, 4, 5, 6, 8, 9])))
 (.seq (.seq (.reg [(0, false), (1, false)] r25_5)
 (.seq (.block 0 (.seq (.reg [(0, false), (1, false)] r25_6)
 (.cond (.t 39) (.seq (.reg [(0, false), (1, false), (2, false), (3, false), (4, false), (5, false), (6, false), (1, true), (3, true), (7, false), (8, false), (9, false)] r25_7)
 (.seq (.reg [(0, false), (1, false), (2, false), (3, false), (4, false), (5, false), (6, false), (7, false), (8, false)] r25_8)
 (.seq (.reg [(0, false), (1, false), (2, false), (4, false), (3, false), (0, true), (5, false), (6, false), (7, false)] r25_9)
 .ret)))
 (.seq (.reg [(0, false), (1, false)] r25_10)
 (.cond (.t 61) (.seq (.reg [(0, false), (1, false), (2, false), (3, false), (4, false), (5, false), (6, false), (7, false), (8, false), (9, false)] r25_11)
 (.seq (.reg [(0, false), (1, false), (2, false), (3, false), (4, false), (5, false), (6, false), (7, false), (8, false), (9, false), (10, false)] r25_12)
 (.seq (.seq (.reg [(0, false)] r25_13)
 (.seq (.cond (.t 80) (.reg [(0, false), (1, false), (2, false), (3, false), (4, false)] r25_14)
 .skip) (.mask [4, 6, 9, 13, 14, 15])))
 (.seq (.seq (.reg [(0, false), (1, false)] r25_15)
 (.cond (.t 86) (.seq (.reg [(0, false), (1, false), (2, false), (3, false), (4, false), (5, false), (6, false), (7, false), (8, false), (4, true), (9, false)] r25_16)
 .ret)
 .skip))
 (.seq (.reg [(0, false), (1, false), (2, false), (3, false), (4, false), (5, false), (6, false), (7, false), (3, true), (4, true), (8, false)] r25_17)
 .ret)))))
 (.seq (.reg [(0, false), (1, false)] r25_18)
 (.cond (.t 102) (.seq (.seq (.reg [(0, false)] r25_19)
 (.seq (.cond (.t 104) (.reg [(0, false), (1, false), (2, false), (3, false), (4, false)] r25_20)
 .skip) (.mask [0, 4, 5, 6, 8])))
 (.seq (.reg [(0, false), (1, false), (2, false), (3, false), (5, false), (4, false), (0, true), (6, false), (7, false), (8, false)] r25_21)
 .ret))
 (.seq (.reg [(0, false), (1, false)] r25_22)
 (.cond (.t 116) (.seq (.reg [(0, false), (1, false), (2, false), (3, false)] r25_23)
 (.seq (.seq (.reg [(0, false)] r25_24)
 (.seq (.cond (.t 119) (.reg [(0, false), (1, false), (2, false), (3, false), (4, false), (5, false), (6, false), (7, false)] r25_25)
 .skip) (.mask [0, 5, 6, 16, 17])))
 (.seq (.reg [(0, false), (1, false), (2, false), (3, false), (5, false), (4, false), (0, true), (6, false), (7, false), (8, false)] r25_26)
 .ret)))
 (.seq (.reg [(0, false), (1, false)] r25_27)
 (.cond (.t 133) (.seq (.seq (.reg [(0, false)] r25_28)
 (.seq (.cond (.t 135) (.reg [(0, false), (1, false), (2, false), (4, false), (3, false), (4, true), (5, false), (6, false), (7, false), (8, false), (9, false)] r25_29)
 .skip) (.mask [0, 4, 5, 6, 8])))
 (.seq (.reg [(0, false), (1, false), (2, false), (3, false), (5, false), (4, false), (0, true), (6, false), (7, false), (8, false)] r25_30)
 .ret))
 (.seq (.seq (.reg [(0, false), (1, false)] r25_31)
 (.seq (.cond (.t 152) .skip
 (.reg [(0, false), (1, false)] r25_32)) (.mask [0, 4, 5, 6, 38, 152])))
 (.seq (.cond (.t 152) (.seq (.reg [(0, false), (1, false), (2, false), (3, false), (4, false), (5, false), (6, false), (7, false), (8, false)] r25_33)
 (.reg [(0, false), (1, false), (2, false), (3, false), (4, false), (5, false), (6, false), (7, false), (8, false), (9, false)] r25_34))
 (.seq (.reg [(0, false), (1, false)] r25_35)
 (.seq (.cond (.t 173) (.seq (.reg [(0, false), (1, false)] r25_36)
 (.reg [(0, false), (1, false)] r25_37))
 .skip) (.mask [4, 6])))) (.mask [4, 6])))))))))))))) (.mask [4, 6])))
 (.seq (.reg [(0, false), (1, false), (2, false)] r25_38)
 .ret))))))
def f25 : IFunc := { nt := 179, res := [((.t 6), some (some 3)), ((.t 7), none)], body := b25 }
def ps25 : List Phases := [⟨[([(0, false), (1, false), (2, false), (3, false), (4, false), (5, false)], 6), ([(1, true), (3, true), (7, false), (8, false)], 9)], []⟩, ⟨[([(0, false), (1, false), (2, false), (4, false)], 3), ([(0, true), (5, false)], 6)], [(7, false)]⟩, ⟨[([(0, false), (1, false), (2, false), (3, false), (4, false), (5, false), (6, false), (7, false)], 8)], [(4, true), (9, false)]⟩, ⟨[([(0, false), (1, false), (2, false), (3, false), (4, false), (5, false), (6, false)], 7)], [(3, true), (4, true), (8, false)]⟩, ⟨[([(0, false), (1, false), (2, false), (3, false), (5, false)], 4), ([(0, true), (6, false)], 7)], [(8, false)]⟩, ⟨[([(0, false), (1, false), (2, false), (3, false), (5, false)], 4), ([(0, true), (6, false)], 7)], [(8, false)]⟩, ⟨[([(0, false), (1, false), (2, false), (4, false)], 3), ([(4, true)], 5), ([(6, false), (7, false), (8, false)], 9)], []⟩, ⟨[([(0, false), (1, false), (2, false), (3, false), (5, false)], 4), ([(0, true), (6, false)], 7)], [(8, false)]⟩]
def ms25 : List (Option (List Nat)) := [some [0, 4, 5, 6, 8, 9], some [4, 6, 9, 13, 14, 15], none, some [0, 4, 5, 6, 8], some [0, 5, 6, 16, 17], some [0, 4, 5, 6, 8], some [0, 4, 5, 6, 38, 152], some [4, 6], some [4, 6], none, none, none, none, none, some [4, 6]]
-- chatelaine/chatelainelaw14.is
def r26_0 : List IOper := [⟨some 3, .box 3 (.t 1), none⟩,
  ⟨some 4, .mov (.c (.bool false)), none⟩]
def r26_1 : List IOper := [⟨some 15, .fld 1 (.t 3), none⟩,
  ⟨some 16, .load none (.t 15), none⟩,
  ⟨some 17, .lenL (.t 16), none⟩,
  ⟨some 18, .mov (.c (.int .i64 0)), none⟩]
def r26_2 : List IOper := [⟨some 19, .bin .lss (.t 18) (.t 17), none⟩]
def r26_3 : List IOper := [⟨some 20, .mov (.t 18), none⟩,
  ⟨some 21, .ixS 3 (.t 16) (.t 18), none⟩,
  ⟨some 22, .load (some 3) (.t 21), none⟩,
  ⟨some 6, .alloc [(.int .i64 0), (.int .i64 0), (.str (⟨#[]⟩ : ByteArray))], none⟩,
  ⟨some 5, .mov (.t 20), none⟩,
  ⟨none, .store 3 (.t 6) (.t 22), none⟩]
def r26_4 : List IOper := [⟨some 24, .mov (.t 0), none⟩,
  ⟨some 25, .mov (.t 5), none⟩,
  ⟨some 26, .callF 65 [(.t 24), (.t 25)], none⟩,
  ⟨some 23, .mov (.t 26), none⟩,
  ⟨some 27, .ext (.t 23) 0, none⟩,
  ⟨some 28, .ext (.t 23) 1, none⟩,
  ⟨some 7, .alloc [(.int .i64 0), (.int .i64 0), (.str (⟨#[]⟩ : ByteArray))], none⟩,
  ⟨none, .store 3 (.t 7) (.t 27), none⟩,
  ⟨some 8, .mov (.t 28), none⟩]
def r26_5 : List IOper := [⟨some 29, .mov (.t 8), none⟩,
  ⟨some 30, .un .not (.t 29), none⟩,
  ⟨some 31, .mov (.t 30), none⟩,
  ⟨some 32, .load (some 3) (.t 7), some (31, false)⟩,
  ⟨some 33, .load (some 3) (.t 6), some (31, false)⟩,
  ⟨some 34, .eqs true [1, 1, 2] (.t 32) (.t 33), some (31, false)⟩,
  ⟨some 35, .pick (.t 31) (.c (.bool true)) (.t 34), none⟩]
def r26_6 : List IOper := [⟨some 4, .mov (.c (.bool false)), none⟩]
def r26_7 : List IOper := [⟨some 36, .bin .add (.t 18) (.c (.int .i64 1)), none⟩,
  ⟨some 18, .mov (.t 36), none⟩]
def r26_8 : List IOper := [⟨some 9, .mov (.c (.int .i64 (-1))), none⟩]
def r26_9 : List IOper := [⟨some 37, .mov (.t 9), none⟩,
  ⟨some 38, .bin .leq (.t 37) (.c (.int .i64 12)), none⟩]
def r26_10 : List IOper := [⟨some 10, .mov (.c (.int .i64 (-1))), none⟩]
def r26_11 : List IOper := [⟨some 41, .mov (.t 10), none⟩,
  ⟨some 42, .bin .leq (.t 41) (.c (.int .i64 12)), none⟩]
def r26_12 : List IOper := [⟨some 45, .mov (.t 0), none⟩,
  ⟨some 46, .mov (.t 9), none⟩,
  ⟨some 47, .mov (.t 10), none⟩,
  ⟨some 48, .callF 68 [(.t 45), (.t 46), (.t 47)], none⟩,
  ⟨some 49, .load (some 3) (.t 3), none⟩,
  ⟨some 50, .mov (.t 9), none⟩,
  ⟨some 51, .mov (.t 10), none⟩,
  ⟨some 52, .callF 70 [(.t 49), (.t 50), (.t 51)], none⟩,
  ⟨some 53, .eqn 0 true (.t 48) (.t 52), none⟩]
def r26_13 : List IOper := [⟨some 4, .mov (.c (.bool false)), none⟩]
def r26_14 : List IOper := [⟨some 43, .mov (.t 10), none⟩,
  ⟨some 44, .bin .add (.t 43) (.c (.int .i64 1)), none⟩,
  ⟨some 10, .mov (.t 44), none⟩]
def r26_15 : List IOper := [⟨some 39, .mov (.t 9), none⟩,
  ⟨some 40, .bin .add (.t 39) (.c (.int .i64 1)), none⟩,
  ⟨some 9, .mov (.t 40), none⟩]
def r26_16 : List IOper := [⟨some 55, .mov (.t 0), none⟩,
  ⟨some 56, .fld 1 (.t 3), none⟩,
  ⟨some 57, .load none (.t 56), none⟩,
  ⟨some 58, .lenL (.t 57), none⟩,
  ⟨some 59, .callF 65 [(.t 55), (.t 58)], none⟩,
  ⟨some 54, .mov (.t 59), none⟩,
  ⟨some 60, .ext (.t 54) 0, none⟩,
  ⟨some 61, .ext (.t 54) 1, none⟩,
  ⟨some 11, .alloc [(.int .i64 0), (.int .i64 0), (.str (⟨#[]⟩ : ByteArray))], none⟩,
  ⟨none, .store 3 (.t 11) (.t 60), none⟩,
  ⟨some 12, .mov (.t 61), none⟩]
def r26_17 : List IOper := [⟨some 63, .mov (.t 0), none⟩,
  ⟨some 64, .callF 65 [(.t 63), (.c (.int .i64 (-1)))], none⟩,
  ⟨some 62, .mov (.t 64), none⟩,
  ⟨some 65, .ext (.t 62) 0, none⟩,
  ⟨some 66, .ext (.t 62) 1, none⟩,
  ⟨some 13, .alloc [(.int .i64 0), (.int .i64 0), (.str (⟨#[]⟩ : ByteArray))], none⟩,
  ⟨none, .store 3 (.t 13) (.t 65), none⟩,
  ⟨some 14, .mov (.t 66), none⟩]
def r26_18 : List IOper := [⟨some 67, .mov (.t 0), none⟩,
  ⟨some 68, .callF 20 [(.t 67)], none⟩,
  ⟨some 69, .fld 1 (.t 3), none⟩,
  ⟨some 70, .load none (.t 69), none⟩,
  ⟨some 71, .lenL (.t 70), none⟩,
  ⟨some 72, .bin .eql (.t 68) (.t 71), none⟩,
  ⟨some 73, .mov (.t 72), none⟩,
  ⟨some 74, .mov (.t 12), some (73, true)⟩,
  ⟨some 75, .un .not (.t 74), some (73, true)⟩,
  ⟨some 76, .pick (.t 73) (.t 75) (.c (.bool false)), none⟩,
  ⟨some 77, .mov (.t 76), none⟩,
  ⟨some 78, .mov (.t 14), some (77, true)⟩,
  ⟨some 79, .un .not (.t 78), some (77, true)⟩,
  ⟨some 80, .pick (.t 77) (.t 79) (.c (.bool false)), none⟩,
  ⟨some 4, .mov (.t 80), none⟩]
def b26 : ICode :=
 (.seq (.reg [(0, false), (1, false)] r26_0)
 (.seq (.seq (.reg [(0, false), (1, false), (2, false), (3, false)] r26_1)
 (.seq (.block 0 (.loop (.seq (.mask [0, 3, 16, 17, 18]) (.seq (.reg [(0, false)] r26_2)
 (.seq (.cond (.t 19) .skip
 (.exit 0))
 (.seq (.seq (.block 1 (.seq (.reg [(0, false), (1, false), (2, false), (3, false), (4, false), (5, false)] r26_3)
 (.seq (.reg [(0, false), (1, false), (2, false), (3, false), (4, false), (5, false), (6, false), (7, false), (8, false)] r26_4)
 (.seq (.reg [(0, false), (1, false), (2, false), (3, false), (4, false), (5, false), (6, false)] r26_5)
 (.cond (.t 35) (.seq (.reg [(0, false)] r26_6)
 .ret)
 .skip))))) (.mask [0, 3, 16, 17, 18]))
 (.reg [(0, false), (1, false)] r26_7))))))) (.mask [0, 3])))
 (.seq (.seq (.reg [(0, false)] r26_8)
 (.seq (.block 2 (.loop (.seq (.mask [0, 3, 9]) (.seq (.seq (.reg [(0, false), (1, false)] r26_9)
 (.cond (.t 38) .skip
 (.exit 2)))
 (.seq (.seq (.block 3 (.seq (.reg [(0, false)] r26_10)
 (.seq (.block 4 (.loop (.seq (.mask [0, 3, 9, 10]) (.seq (.seq (.reg [(0, false), (1, false)] r26_11)
 (.cond (.t 42) .skip
 (.exit 4)))
 (.seq (.seq (.block 5 (.seq (.reg [(0, false), (1, false), (2, false), (4, false), (5, false), (6, false), (3, false), (4, true), (7, false), (8, false)] r26_12)
 (.cond (.t 53) (.seq (.reg [(0, false)] r26_13)
 .ret)
 .skip))) (.mask [0, 3, 9, 10]))
 (.reg [(0, false), (1, false), (2, false)] r26_14)))))) (.mask [0, 3, 9])))) (.mask [0, 3, 9]))
 (.reg [(0, false), (1, false), (2, false)] r26_15)))))) (.mask [0, 3])))
 (.seq (.reg [(0, false), (1, false), (2, false), (3, false), (4, false), (5, false), (6, false), (7, false), (8, false), (9, false), (10, false)] r26_16)
 (.seq (.reg [(0, false), (1, false), (2, false), (3, false), (4, false), (5, false), (6, false), (7, false)] r26_17)
 (.seq (.reg [(0, false), (2, false), (3, false), (4, false), (1, false), (3, true), (5, false), (6, false), (7, false), (8, false), (9, false), (10, false), (11, false), (12, false), (13, false), (14, false)] r26_18)
 .ret))))))
def f26 : IFunc := { nt := 81, res := [((.t 4), none)], body := b26 }
def ps26 : List Phases := [⟨[([(0, false), (1, false), (2, false), (4, false), (5, false), (6, false)], 3), ([(4, true)], 7)], [(8, false)]⟩, ⟨[([(0, false), (2, false), (3, false), (4, false)], 1)], [(3, true), (5, false), (6, false), (7, false), (8, false), (9, false), (10, false), (11, false), (12, false), (13, false), (14, false)]⟩]
def ms26 : List (Option (List Nat)) := [some [0, 3, 16, 17, 18], none, none, some [0, 3, 16, 17, 18], some [0, 3], some [0, 3, 9], none, some [0, 3, 9, 10], none, none, some [0, 3, 9, 10], some [0, 3, 9], some [0, 3, 9], some [0, 3]]
-- (*chatelaine/net.Net).way
def r64_0 : List IOper := [⟨some 6, .mov (.c (.bool false)), none⟩]
def r64_1 : List IOper := [⟨some 7, .mov (.t 1), none⟩,
  ⟨some 8, .bin .geq (.t 7) (.c (.int .i64 0)), none⟩,
  ⟨some 9, .mov (.t 8), none⟩,
  ⟨some 10, .mov (.t 1), some (9, true)⟩,
  ⟨some 11, .mov (.t 0), some (9, true)⟩,
  ⟨some 12, .nilck (.t 11), some (9, true)⟩,
  ⟨some 13, .fld 0 (.t 12), some (9, true)⟩,
  ⟨some 14, .load none (.t 13), some (9, true)⟩,
  ⟨some 15, .bin .lss (.t 10) (.t 14), some (9, true)⟩,
  ⟨some 16, .pick (.t 9) (.t 15) (.c (.bool false)), none⟩,
  ⟨some 17, .mov (.t 16), none⟩,
  ⟨some 18, .mov (.t 2), some (17, true)⟩,
  ⟨some 19, .bin .geq (.t 18) (.c (.int .i64 0)), some (17, true)⟩,
  ⟨some 20, .pick (.t 17) (.t 19) (.c (.bool false)), none⟩,
  ⟨some 21, .mov (.t 20), none⟩,
  ⟨some 22, .mov (.t 2), some (21, true)⟩,
  ⟨some 23, .mov (.t 0), some (21, true)⟩,
  ⟨some 24, .nilck (.t 23), some (21, true)⟩,
  ⟨some 25, .fld 0 (.t 24), some (21, true)⟩,
  ⟨some 26, .load none (.t 25), some (21, true)⟩,
  ⟨some 27, .bin .lss (.t 22) (.t 26), some (21, true)⟩,
  ⟨some 28, .pick (.t 21) (.t 27) (.c (.bool false)), none⟩,
  ⟨some 29, .mov (.t 28), none⟩,
  ⟨some 30, .mov (.t 1), some (29, true)⟩,
  ⟨some 31, .mov (.t 2), some (29, true)⟩,
  ⟨some 32, .bin .neq (.t 30) (.t 31), some (29, true)⟩,
  ⟨some 33, .pick (.t 29) (.t 32) (.c (.bool false)), none⟩,
  ⟨some 6, .mov (.t 33), none⟩]
def b64 : ICode :=
 (.seq (.reg [(0, false)] r64_0)
 (.seq (.reg [(0, false), (1, false), (2, false), (3, false), (4, false), (5, false), (6, false), (7, false), (8, false), (9, false), (10, false), (11, false), (12, false), (13, false), (14, false), (15, false), (16, false), (17, false), (18, false), (19, false), (20, false), (21, false), (22, false), (23, false), (24, false), (25, false), (26, false), (27, false)] r64_1)
 .ret))
def f64 : IFunc := { nt := 34, res := [((.t 6), none)], body := b64 }
def ps64 : List Phases := []
def ms64 : List (Option (List Nat)) := []
-- (*chatelaine/net.Net).Look
def r65_0 : List IOper := [⟨some 4, .alloc [(.int .i64 0), (.int .i64 0), (.str (⟨#[]⟩ : ByteArray))], none⟩,
  ⟨some 5, .mov (.c (.bool false)), none⟩]
def r65_1 : List IOper := [⟨some 6, .mov (.t 1), none⟩,
  ⟨some 7, .bin .lss (.t 6) (.c (.int .i64 0)), none⟩,
  ⟨some 8, .mov (.t 7), none⟩,
  ⟨some 9, .mov (.t 1), some (8, false)⟩,
  ⟨some 10, .mov (.t 0), some (8, false)⟩,
  ⟨some 11, .nilck (.t 10), some (8, false)⟩,
  ⟨some 12, .fld 1 (.t 11), some (8, false)⟩,
  ⟨some 13, .load none (.t 12), some (8, false)⟩,
  ⟨some 14, .lenL (.t 13), some (8, false)⟩,
  ⟨some 15, .bin .geq (.t 9) (.t 14), some (8, false)⟩,
  ⟨some 16, .pick (.t 8) (.c (.bool true)) (.t 15), none⟩]
def r65_2 : List IOper := [⟨some 17, .build [(.int .i64 0), (.int .i64 0), (.str (⟨#[]⟩ : ByteArray))] [], none⟩,
  ⟨none, .store 3 (.t 4) (.t 17), none⟩,
  ⟨some 5, .mov (.c (.bool false)), none⟩]
def r65_3 : List IOper := [⟨some 18, .mov (.t 0), none⟩,
  ⟨some 19, .nilck (.t 18), none⟩,
  ⟨some 20, .fld 1 (.t 19), none⟩,
  ⟨some 21, .load none (.t 20), none⟩,
  ⟨some 22, .mov (.t 1), none⟩,
  ⟨some 23, .ixS 3 (.t 21) (.t 22), none⟩,
  ⟨some 24, .load (some 3) (.t 23), none⟩,
  ⟨none, .store 3 (.t 4) (.t 24), none⟩,
  ⟨some 5, .mov (.c (.bool true)), none⟩]
def b65 : ICode :=
 (.seq (.reg [(0, false), (1, false)] r65_0)
 (.seq (.seq (.reg [(0, false), (1, false), (2, false), (3, false), (4, false), (5, false), (6, false), (7, false), (8, false), (9, false), (10, false)] r65_1)
 (.cond (.t 16) (.seq (.reg [(0, false), (1, false), (2, false)] r65_2)
 .ret)
 .skip))
 (.seq (.reg [(0, false), (1, false), (2, false), (3, false), (4, false), (5, false), (6, false), (7, false), (8, false)] r65_3)
 .ret)))
def f65 : IFunc := { nt := 25, res := [((.t 4), some (some 3)), ((.t 5), none)], body := b65 }
def ps65 : List Phases := []
def ms65 : List (Option (List Nat)) := [none]
-- slices.Delete[[]chatelaine/net.Packet,chatelaine/net.Packet]
def r66_0 : List IOper := [⟨some 6, .mov (.c .nils), none⟩]
def r66_1 : List IOper := [⟨some 8, .mov (.t 0), none⟩,
  ⟨some 9, .mov (.t 1), none⟩,
  ⟨some 10, .mov (.t 2), none⟩,
  ⟨some 11, .mov (.t 0), none⟩,
  ⟨some 12, .lenL (.t 11), none⟩,
  ⟨some 13, .slcS3 3 (.t 8) (some (.t 9)) (.t 10) (.t 12), none⟩]
def r66_2 : List IOper := [⟨some 14, .mov (.t 1), none⟩,
  ⟨some 15, .mov (.t 2), none⟩,
  ⟨some 16, .bin .eql (.t 14) (.t 15), none⟩]
def r66_3 : List IOper := [⟨some 17, .mov (.t 0), none⟩,
  ⟨some 6, .mov (.t 17), none⟩]
def r66_4 : List IOper := [⟨some 18, .mov (.t 0), none⟩,
  ⟨some 19, .lenL (.t 18), none⟩,
  ⟨some 7, .mov (.t 19), none⟩]
def r66_5 : List IOper := [⟨some 20, .mov (.t 0), none⟩,
  ⟨some 21, .mov (.t 1), none⟩,
  ⟨some 22, .slcS 3 (.t 20) none (some (.t 21)), none⟩,
  ⟨some 23, .mov (.t 0), none⟩,
  ⟨some 24, .mov (.t 2), none⟩,
  ⟨some 25, .slcS 3 (.t 23) (some (.t 24)) none, none⟩,
  ⟨some 26, .app 3 32 (.t 22) (.t 25), none⟩,
  ⟨some 0, .mov (.t 26), none⟩]
def r66_6 : List IOper := [⟨some 27, .mov (.t 0), none⟩,
  ⟨some 28, .mov (.t 0), none⟩,
  ⟨some 29, .lenL (.t 28), none⟩,
  ⟨some 30, .mov (.t 7), none⟩,
  ⟨some 31, .slcS 3 (.t 27) (some (.t 29)) (some (.t 30)), none⟩,
  ⟨none, .clr 3 [(.int .i64 0), (.int .i64 0), (.str (⟨#[]⟩ : ByteArray))] (.t 31), none⟩]
def r66_7 : List IOper := [⟨some 32, .mov (.t 0), none⟩,
  ⟨some 6, .mov (.t 32), none⟩]
def b66 : ICode :=
 (.seq (.reg [(0, false)] r66_0)
 (.seq (.reg [(0, false), (1, false), (2, false), (3, false), (4, false), (5, false)] r66_1)
 (.seq (.seq (.reg [(0, false), (1, false), (2, false)] r66_2)
 (.cond (.t 16) (.seq (.reg [(0, false), (1, false)] r66_3)
 .ret)
 .skip))
 (.seq (.reg [(0, false), (1, false), (2, false)] r66_4)
 (.seq (.reg [(0, false), (1, false), (2, false), (3, false), (4, false), (5, false), (6, false), (7, false)] r66_5)
 (.seq (.reg [(0, false), (1, false), (2, false), (3, false), (4, false), (5, false)] r66_6)
 (.seq (.reg [(0, false), (1, false)] r66_7)
 .ret)))))))
def f66 : IFunc := { nt := 33, res := [((.t 6), none)], body := b66 }
def ps66 : List Phases := [⟨[([(0, false), (1, false), (2, false), (3, false), (4, false), (5, false)], 6)], [(7, false)]⟩]
def ms66 : List (Option (List Nat)) := [none]
-- slices.Clone[[]chatelaine/net.Packet,chatelaine/net.Packet]
def r67_0 : List IOper := [⟨some 2, .mov (.c .nils), none⟩]
def r67_1 : List IOper := [⟨some 3, .mov (.t 0), none⟩,
  ⟨some 4, .eqn 2 false (.t 3) (.c .nils), none⟩]
def r67_2 : List IOper := [⟨some 2, .mov (.c .nils), none⟩]
def r67_3 : List IOper := [⟨some 5, .buildS 3 0 [(.int .i64 0), (.int .i64 0), (.str (⟨#[]⟩ : ByteArray))] [], none⟩,
  ⟨some 6, .mov (.t 0), none⟩,
  ⟨some 7, .app 3 32 (.t 5) (.t 6), none⟩,
  ⟨some 2, .mov (.t 7), none⟩]
def b67 : ICode :=
 (.seq (.reg [(0, false)] r67_0)
 (.seq (.seq (.reg [(0, false), (1, false)] r67_1)
 (.cond (.t 4) (.seq (.reg [(0, false)] r67_2)
 .ret)
 .skip))
 (.seq (.reg [(0, false), (1, false), (2, false), (3, false)] r67_3)
 .ret)))
def f67 : IFunc := { nt := 8, res := [((.t 2), none)], body := b67 }
def ps67 : List Phases := []
def ms67 : List (Option (List Nat)) := [none]
-- (*chatelaine/net.Net).IsCut
def r68_0 : List IOper := [⟨some 6, .mov (.c (.bool false)), none⟩]
def r68_1 : List IOper := [⟨some 7, .mov (.t 0), none⟩,
  ⟨some 8, .mov (.t 1), none⟩,
  ⟨some 9, .mov (.t 2), none⟩,
  ⟨some 10, .callF 64 [(.t 7), (.t 8), (.t 9)], none⟩,
  ⟨some 11, .mov (.t 10), none⟩,
  ⟨some 12, .mov (.t 0), some (11, true)⟩,
  ⟨some 13, .mov (.t 1), some (11, true)⟩,
  ⟨some 14, .nilck (.t 12), some (11, true)⟩,
  ⟨some 15, .fld 2 (.t 14), some (11, true)⟩,
  ⟨some 16, .ixA 12 1 (.t 15) (.t 13), some (11, true)⟩,
  ⟨some 17, .load none (.t 16), some (11, true)⟩,
  ⟨some 18, .mov (.t 2), some (11, true)⟩,
  ⟨some 19, .bin .shr (.t 17) (.t 18), some (11, true)⟩,
  ⟨some 20, .bin .and (.t 19) (.c (.int .u32 1)), some (11, true)⟩,
  ⟨some 21, .bin .eql (.t 20) (.c (.int .u32 1)), some (11, true)⟩,
  ⟨some 22, .pick (.t 11) (.t 21) (.c (.bool false)), none⟩,
  ⟨some 6, .mov (.t 22), none⟩]
def b68 : ICode :=
 (.seq (.reg [(0, false)] r68_0)
 (.seq (.reg [(0, false), (1, false), (2, false), (3, false), (4, false), (5, false), (6, false), (7, false), (8, false), (9, false), (10, false), (11, false), (12, false), (13, false), (14, false), (15, false), (16, false)] r68_1)
 .ret))
def f68 : IFunc := { nt := 23, res := [((.t 6), none)], body := b68 }
def ps68 : List Phases := []
def ms68 : List (Option (List Nat)) := []
-- chatelaine/chatelaineref14.Send
def r69_0 : List IOper := [⟨some 2, .box 3 (.t 0), none⟩,
  ⟨some 3, .box 3 (.t 1), none⟩,
  ⟨some 4, .alloc [(.int .i64 0), .nils, .nils], none⟩,
  ⟨some 5, .mov (.c (.bool false)), none⟩]
def r69_1 : List IOper := [⟨some 6, .load (some 3) (.t 2), none⟩,
  ⟨some 7, .fld 0 (.t 3), none⟩,
  ⟨some 8, .load none (.t 7), none⟩,
  ⟨some 9, .fld 1 (.t 3), none⟩,
  ⟨some 10, .load none (.t 9), none⟩,
  ⟨some 11, .callF 106 [(.t 6), (.t 8), (.t 10)], none⟩,
  ⟨some 12, .un .not (.t 11), none⟩,
  ⟨some 13, .mov (.t 12), none⟩,
  ⟨some 14, .fld 1 (.t 2), some (13, false)⟩,
  ⟨some 15, .load none (.t 14), some (13, false)⟩,
  ⟨some 16, .lenL (.t 15), some (13, false)⟩,
  ⟨some 17, .bin .gtr (.t 16) (.c (.int .i64 3999)), some (13, false)⟩,
  ⟨some 18, .pick (.t 13) (.c (.bool true)) (.t 17), none⟩]
def r69_2 : List IOper := [⟨some 19, .load (some 3) (.t 2), none⟩,
  ⟨none, .store 3 (.t 4) (.t 19), none⟩,
  ⟨some 5, .mov (.c (.bool false)), none⟩]
def r69_3 : List IOper := [⟨some 20, .buildS 3 0 [(.int .i64 0), (.int .i64 0), (.str (⟨#[]⟩ : ByteArray))] [], none⟩,
  ⟨some 21, .fld 1 (.t 2), none⟩,
  ⟨some 22, .load none (.t 21), none⟩,
  ⟨some 23, .app 3 32 (.t 20) (.t 22), none⟩,
  ⟨some 24, .load (some 3) (.t 3), none⟩,
  ⟨some 25, .buildS 3 1 [(.int .i64 0), (.int .i64 0), (.str (⟨#[]⟩ : ByteArray))] [(0, (.t 24))], none⟩,
  ⟨some 26, .app 3 32 (.t 23) (.t 25), none⟩,
  ⟨some 27, .fld 1 (.t 2), none⟩,
  ⟨none, .store 1 (.t 27) (.t 26), none⟩]
def r69_4 : List IOper := [⟨some 28, .load (some 3) (.t 2), none⟩,
  ⟨none, .store 3 (.t 4) (.t 28), none⟩,
  ⟨some 5, .mov (.c (.bool true)), none⟩]
def b69 : ICode :=
 (.seq (.reg [(0, false), (1, false), (2, false), (3, false)] r69_0)
 (.seq (.seq (.reg [(0, false), (1, false), (2, false), (3, false), (4, false), (5, false), (6, false), (7, false), (8, false), (9, false), (10, false), (11, false), (12, false)] r69_1)
 (.cond (.t 18) (.seq (.reg [(0, false), (1, false), (2, false)] r69_2)
 .ret)
 .skip))
 (.seq (.reg [(1, false), (2, false), (4, false), (0, false), (3, false), (4, true), (5, false), (6, false), (7, false), (8, false)] r69_3)
 (.seq (.reg [(0, false), (1, false), (2, false)] r69_4)
 .ret))))
def f69 : IFunc := { nt := 29, res := [((.t 4), some (some 3)), ((.t 5), none)], body := b69 }
def ps69 : List Phases := [⟨[([(1, false), (2, false), (4, false), (0, false)], 3), ([(4, true), (5, false)], 6), ([(7, false)], 8)], []⟩]
def ms69 : List (Option (List Nat)) := [none]
-- chatelaine/chatelaineref14.Has
def r70_0 : List IOper := [⟨some 3, .box 3 (.t 0), none⟩,
  ⟨some 6, .mov (.c (.bool false)), none⟩]
def r70_1 : List IOper := [⟨some 9, .fld 2 (.t 3), none⟩,
  ⟨some 10, .load none (.t 9), none⟩,
  ⟨some 11, .lenL (.t 10), none⟩,
  ⟨some 12, .mov (.c (.int .i64 0)), none⟩]
def r70_2 : List IOper := [⟨some 13, .bin .lss (.t 12) (.t 11), none⟩]
def r70_3 : List IOper := [⟨some 14, .ixS 2 (.t 10) (.t 12), none⟩,
  ⟨some 15, .load (some 2) (.t 14), none⟩,
  ⟨some 8, .alloc [(.int .i64 0), (.int .i64 0)], none⟩,
  ⟨none, .store 2 (.t 8) (.t 15), none⟩]
def r70_4 : List IOper := [⟨some 16, .fld 0 (.t 8), none⟩,
  ⟨some 17, .load none (.t 16), none⟩,
  ⟨some 18, .mov (.t 1), none⟩,
  ⟨some 19, .bin .eql (.t 17) (.t 18), none⟩,
  ⟨some 20, .mov (.t 19), none⟩,
  ⟨some 21, .fld 1 (.t 8), some (20, true)⟩,
  ⟨some 22, .load none (.t 21), some (20, true)⟩,
  ⟨some 23, .mov (.t 2), some (20, true)⟩,
  ⟨some 24, .bin .eql (.t 22) (.t 23), some (20, true)⟩,
  ⟨some 25, .pick (.t 20) (.t 24) (.c (.bool false)), none⟩]
def r70_5 : List IOper := [⟨some 6, .mov (.c (.bool true)), none⟩]
def r70_6 : List IOper := [⟨some 26, .bin .add (.t 12) (.c (.int .i64 1)), none⟩,
  ⟨some 12, .mov (.t 26), none⟩]
def r70_7 : List IOper := [⟨some 6, .mov (.c (.bool false)), none⟩]
def b70 : ICode :=
 (.seq (.reg [(0, false), (1, false)] r70_0)
 (.seq (.seq (.reg [(0, false), (1, false), (2, false), (3, false)] r70_1)
 (.seq (.block 0 (.loop (.seq (.mask [1, 2, 10, 11, 12]) (.seq (.reg [(0, false)] r70_2)
 (.seq (.cond (.t 13) .skip
 (.exit 0))
 (.seq (.seq (.block 1 (.seq (.reg [(0, false), (1, false), (2, false), (3, false)] r70_3)
 (.seq (.reg [(0, false), (1, false), (2, false), (3, false), (4, false), (5, false), (6, false), (7, false), (8, false), (9, false)] r70_4)
 (.cond (.t 25) (.seq (.reg [(0, false)] r70_5)
 .ret)
 .skip)))) (.mask [1, 2, 10, 11, 12]))
 (.reg [(0, false), (1, false)] r70_6))))))) (.mask [])))
 (.seq (.reg [(0, false)] r70_7)
 .ret)))
def f70 : IFunc := { nt := 27, res := [((.t 6), none)], body := b70 }
def ps70 : List Phases := []
def ms70 : List (Option (List Nat)) := [some [1, 2, 10, 11, 12], none, none, some [1, 2, 10, 11, 12], some []]
-- chatelaine/chatelaineref14.Without
def r71_0 : List IOper := [⟨some 2, .box 3 (.t 0), none⟩,
  ⟨some 4, .alloc [(.int .i64 0), .nils, .nils], none⟩]
def r71_1 : List IOper := [⟨some 8, .buildS 3 0 [(.int .i64 0), (.int .i64 0), (.str (⟨#[]⟩ : ByteArray))] [], none⟩,
  ⟨some 5, .mov (.t 8), none⟩]
def r71_2 : List IOper := [⟨some 9, .fld 1 (.t 2), none⟩,
  ⟨some 10, .load none (.t 9), none⟩,
  ⟨some 11, .lenL (.t 10), none⟩,
  ⟨some 12, .mov (.c (.int .i64 0)), none⟩]
def r71_3 : List IOper := [⟨some 13, .bin .lss (.t 12) (.t 11), none⟩]
def r71_4 : List IOper := [⟨some 14, .mov (.t 12), none⟩,
  ⟨some 15, .ixS 3 (.t 10) (.t 12), none⟩,
  ⟨some 16, .load (some 3) (.t 15), none⟩,
  ⟨some 7, .alloc [(.int .i64 0), (.int .i64 0), (.str (⟨#[]⟩ : ByteArray))], none⟩,
  ⟨some 6, .mov (.t 14), none⟩,
  ⟨none, .store 3 (.t 7) (.t 16), none⟩]
def r71_5 : List IOper := [⟨some 17, .mov (.t 6), none⟩,
  ⟨some 18, .mov (.t 1), none⟩,
  ⟨some 19, .bin .neq (.t 17) (.t 18), none⟩]
def r71_6 : List IOper := [⟨some 20, .mov (.t 5), none⟩,
  ⟨some 21, .load (some 3) (.t 7), none⟩,
  ⟨some 22, .buildS 3 1 [(.int .i64 0), (.int .i64 0), (.str (⟨#[]⟩ : ByteArray))] [(0, (.t 21))], none⟩,
  ⟨some 23, .app 3 32 (.t 20) (.t 22), none⟩,
  ⟨some 5, .mov (.t 23), none⟩]
def r71_7 : List IOper := [⟨some 24, .bin .add (.t 12) (.c (.int .i64 1)), none⟩,
  ⟨some 12, .mov (.t 24), none⟩]
def r71_8 : List IOper := [⟨some 25, .mov (.t 5), none⟩,
  ⟨some 26, .fld 1 (.t 2), none⟩,
  ⟨none, .store 1 (.t 26) (.t 25), none⟩]
def r71_9 : List IOper := [⟨some 27, .load (some 3) (.t 2), none⟩,
  ⟨none, .store 3 (.t 4) (.t 27), none⟩]
def b71 : ICode :=
 (.seq (.reg [(0, false), (1, false)] r71_0)
 (.seq (.reg [(0, false), (1, false)] r71_1)
 (.seq (.seq (.reg [(0, false), (1, false), (2, false), (3, false)] r71_2)
 (.seq (.block 0 (.loop (.seq (.mask [1, 2, 4, 5, 10, 11, 12]) (.seq (.reg [(0, false)] r71_3)
 (.seq (.cond (.t 13) .skip
 (.exit 0))
 (.seq (.seq (.block 1 (.seq (.reg [(0, false), (1, false), (2, false), (3, false), (4, false), (5, false)] r71_4)
 (.seq (.reg [(0, false), (1, false), (2, false)] r71_5)
 (.seq (.cond (.t 19) (.reg [(0, false), (1, false), (2, false), (3, false), (4, false)] r71_6)
 .skip) (.mask [1, 2, 4, 5, 10, 11, 12]))))) (.mask [1, 2, 4, 5, 10, 11, 12]))
 (.reg [(0, false), (1, false)] r71_7))))))) (.mask [2, 4, 5])))
 (.seq (.reg [(0, false), (1, false), (2, false)] r71_8)
 (.seq (.reg [(0, false), (1, false)] r71_9)
 .ret)))))
def f71 : IFunc := { nt := 28, res := [((.t 4), some (some 3))], body := b71 }
def ps71 : List Phases := []
def ms71 : List (Option (List Nat)) := [some [1, 2, 4, 5, 10, 11, 12], none, some [1, 2, 4, 5, 10, 11, 12], some [1, 2, 4, 5, 10, 11, 12], some [2, 4, 5]]
-- chatelaine/chatelaineref14.SetCut
def r72_0 : List IOper := [⟨some 4, .box 3 (.t 0), none⟩,
  ⟨some 8, .alloc [(.int .i64 0), .nils, .nils], none⟩]
def r72_1 : List IOper := [⟨some 12, .buildS 2 0 [(.int .i64 0), (.int .i64 0)] [], none⟩,
  ⟨some 9, .mov (.t 12), none⟩]
def r72_2 : List IOper := [⟨some 13, .fld 2 (.t 4), none⟩,
  ⟨some 14, .load none (.t 13), none⟩,
  ⟨some 15, .lenL (.t 14), none⟩,
  ⟨some 16, .mov (.c (.int .i64 0)), none⟩]
def r72_3 : List IOper := [⟨some 17, .bin .lss (.t 16) (.t 15), none⟩]
def r72_4 : List IOper := [⟨some 18, .ixS 2 (.t 14) (.t 16), none⟩,
  ⟨some 19, .load (some 2) (.t 18), none⟩,
  ⟨some 11, .alloc [(.int .i64 0), (.int .i64 0)], none⟩,
  ⟨none, .store 2 (.t 11) (.t 19), none⟩]
def r72_5 : List IOper := [⟨some 20, .fld 0 (.t 11), none⟩,
  ⟨some 21, .load none (.t 20), none⟩,
  ⟨some 22, .mov (.t 1), none⟩,
  ⟨some 23, .bin .neq (.t 21) (.t 22), none⟩,
  ⟨some 24, .mov (.t 23), none⟩,
  ⟨some 25, .fld 1 (.t 11), some (24, false)⟩,
  ⟨some 26, .load none (.t 25), some (24, false)⟩,
  ⟨some 27, .mov (.t 2), some (24, false)⟩,
  ⟨some 28, .bin .neq (.t 26) (.t 27), some (24, false)⟩,
  ⟨some 29, .pick (.t 24) (.c (.bool true)) (.t 28), none⟩]
def r72_6 : List IOper := [⟨some 30, .mov (.t 9), none⟩,
  ⟨some 31, .load (some 2) (.t 11), none⟩,
  ⟨some 32, .buildS 2 1 [(.int .i64 0), (.int .i64 0)] [(0, (.t 31))], none⟩,
  ⟨some 33, .app 2 16 (.t 30) (.t 32), none⟩,
  ⟨some 9, .mov (.t 33), none⟩]
def r72_7 : List IOper := [⟨some 34, .bin .add (.t 16) (.c (.int .i64 1)), none⟩,
  ⟨some 16, .mov (.t 34), none⟩]
def r72_8 : List IOper := [⟨some 35, .mov (.t 3), none⟩,
  ⟨some 36, .mov (.t 35), none⟩,
  ⟨some 37, .load (some 3) (.t 4), some (36, true)⟩,
  ⟨some 38, .mov (.t 1), some (36, true)⟩,
  ⟨some 39, .mov (.t 2), some (36, true)⟩,
  ⟨some 40, .callF 106 [(.t 37), (.t 38), (.t 39)], some (36, true)⟩,
  ⟨some 41, .pick (.t 36) (.t 40) (.c (.bool false)), none⟩]
def r72_9 : List IOper := [⟨some 42, .mov (.t 9), none⟩,
  ⟨some 43, .mov (.t 1), none⟩,
  ⟨some 44, .mov (.t 2), none⟩,
  ⟨some 45, .build [(.int .i64 0), (.int .i64 0)] [(0, 1, (.t 43)), (1, 1, (.t 44))], none⟩,
  ⟨some 46, .buildS 2 1 [(.int .i64 0), (.int .i64 0)] [(0, (.t 45))], none⟩,
  ⟨some 47, .app 2 16 (.t 42) (.t 46), none⟩,
  ⟨some 9, .mov (.t 47), none⟩]
def r72_10 : List IOper := [⟨some 48, .mov (.t 9), none⟩,
  ⟨some 49, .fld 2 (.t 4), none⟩,
  ⟨none, .store 1 (.t 49) (.t 48), none⟩]
def r72_11 : List IOper := [⟨some 50, .load (some 3) (.t 4), none⟩,
  ⟨none, .store 3 (.t 8) (.t 50), none⟩]
def b72 : ICode :=
 (.seq (.reg [(0, false), (1, false)] r72_0)
 (.seq (.reg [(0, false), (1, false)] r72_1)
 (.seq (.seq (.reg [(0, false), (1, false), (2, false), (3, false)] r72_2)
 (.seq (.block 0 (.loop (.seq (.mask [1, 2, 3, 4, 8, 9, 14, 15, 16]) (.seq (.reg [(0, false)] r72_3)
 (.seq (.cond (.t 17) .skip
 (.exit 0))
 (.seq (.seq (.block 1 (.seq (.reg [(0, false), (1, false), (2, false), (3, false)] r72_4)
 (.seq (.reg [(0, false), (1, false), (2, false), (3, false), (4, false), (5, false), (6, false), (7, false), (8, false), (9, false)] r72_5)
 (.seq (.cond (.t 29) (.reg [(0, false), (1, false), (2, false), (3, false), (4, false)] r72_6)
 .skip) (.mask [1, 2, 3, 4, 8, 9, 14, 15, 16]))))) (.mask [1, 2, 3, 4, 8, 9, 14, 15, 16]))
 (.reg [(0, false), (1, false)] r72_7))))))) (.mask [1, 2, 3, 4, 8, 9])))
 (.seq (.seq (.reg [(0, false), (1, false), (2, false), (3, false), (4, false), (5, false), (6, false)] r72_8)
 (.seq (.cond (.t 41) (.reg [(0, false), (1, false), (2, false), (3, false), (4, false), (5, false), (6, false)] r72_9)
 .skip) (.mask [4, 8, 9])))
 (.seq (.reg [(0, false), (1, false), (2, false)] r72_10)
 (.seq (.reg [(0, false), (1, false)] r72_11)
 .ret))))))
def f72 : IFunc := { nt := 51, res := [((.t 8), some (some 3))], body := b72 }
def ps72 : List Phases := []
def ms72 : List (Option (List Nat)) := [some [1, 2, 3, 4, 8, 9, 14, 15, 16], none, some [1, 2, 3, 4, 8, 9, 14, 15, 16], some [1, 2, 3, 4, 8, 9, 14, 15, 16], some [1, 2, 3, 4, 8, 9], some [4, 8, 9]]
-- (*chatelaine/net.Net).Heal
def r73_0 : List IOper := [⟨some 2, .mov (.t 0), none⟩,
  ⟨some 3, .build [(.int .u32 0), (.int .u32 0), (.int .u32 0), (.int .u32 0), (.int .u32 0), (.int .u32 0), (.int .u32 0), (.int .u32 0), (.int .u32 0), (.int .u32 0), (.int .u32 0), (.int .u32 0)] [], none⟩,
  ⟨some 4, .nilck (.t 2), none⟩,
  ⟨some 5, .fld 2 (.t 4), none⟩,
  ⟨none, .store 12 (.t 5) (.t 3), none⟩]
def b73 : ICode :=
 (.reg [(0, false), (1, false), (2, false), (3, false), (4, false)] r73_0)
def f73 : IFunc := { nt := 6, res := [], body := b73 }
def ps73 : List Phases := []
def ms73 : List (Option (List Nat)) := []
-- chatelaine/chatelaineref14.Is
def r106_0 : List IOper := [⟨some 3, .box 3 (.t 0), none⟩,
  ⟨some 6, .mov (.c (.bool false)), none⟩]
def r106_1 : List IOper := [⟨some 7, .mov (.t 1), none⟩,
  ⟨some 8, .bin .geq (.t 7) (.c (.int .i64 0)), none⟩,
  ⟨some 9, .mov (.t 8), none⟩,
  ⟨some 10, .mov (.t 2), some (9, true)⟩,
  ⟨some 11, .bin .geq (.t 10) (.c (.int .i64 0)), some (9, true)⟩,
  ⟨some 12, .pick (.t 9) (.t 11) (.c (.bool false)), none⟩,
  ⟨some 13, .mov (.t 12), none⟩,
  ⟨some 14, .mov (.t 1), some (13, true)⟩,
  ⟨some 15, .fld 0 (.t 3), some (13, true)⟩,
  ⟨some 16, .load none (.t 15), some (13, true)⟩,
  ⟨some 17, .bin .lss (.t 14) (.t 16), some (13, true)⟩,
  ⟨some 18, .pick (.t 13) (.t 17) (.c (.bool false)), none⟩,
  ⟨some 19, .mov (.t 18), none⟩,
  ⟨some 20, .mov (.t 2), some (19, true)⟩,
  ⟨some 21, .fld 0 (.t 3), some (19, true)⟩,
  ⟨some 22, .load none (.t 21), some (19, true)⟩,
  ⟨some 23, .bin .lss (.t 20) (.t 22), some (19, true)⟩,
  ⟨some 24, .pick (.t 19) (.t 23) (.c (.bool false)), none⟩,
  ⟨some 25, .mov (.t 24), none⟩,
  ⟨some 26, .mov (.t 1), some (25, true)⟩,
  ⟨some 27, .mov (.t 2), some (25, true)⟩,
  ⟨some 28, .bin .neq (.t 26) (.t 27), some (25, true)⟩,
  ⟨some 29, .pick (.t 25) (.t 28) (.c (.bool false)), none⟩,
  ⟨some 6, .mov (.t 29), none⟩]
def b106 : ICode :=
 (.seq (.reg [(0, false), (1, false)] r106_0)
 (.seq (.reg [(0, false), (1, false), (2, false), (3, false), (4, false), (5, false), (6, false), (7, false), (8, false), (9, false), (10, false), (11, false), (12, false), (13, false), (14, false), (15, false), (16, false), (17, false), (18, false), (19, false), (20, false), (21, false), (22, false), (23, false)] r106_1)
 .ret))
def f106 : IFunc := { nt := 30, res := [((.t 6), none)], body := b106 }
def ps106 : List Phases := []
def ms106 : List (Option (List Nat)) := []
theorem ok3 : rfunc Try.prog Try.f3 ps3 ms3 = some f3 := by kernel_rfl
theorem ok4 : rfunc Try.prog Try.f4 ps4 ms4 = some f4 := by kernel_rfl
theorem ok5 : rfunc Try.prog Try.f5 ps5 ms5 = some f5 := by kernel_rfl
theorem ok6 : rfunc Try.prog Try.f6 ps6 ms6 = some f6 := by kernel_rfl
theorem ok14 : rfunc Try.prog Try.f14 ps14 ms14 = some f14 := by kernel_rfl
theorem ok15 : rfunc Try.prog Try.f15 ps15 ms15 = some f15 := by kernel_rfl
theorem ok16 : rfunc Try.prog Try.f16 ps16 ms16 = some f16 := by kernel_rfl
theorem ok17 : rfunc Try.prog Try.f17 ps17 ms17 = some f17 := by kernel_rfl
theorem ok18 : rfunc Try.prog Try.f18 ps18 ms18 = some f18 := by kernel_rfl
theorem ok19 : rfunc Try.prog Try.f19 ps19 ms19 = some f19 := by kernel_rfl
theorem ok20 : rfunc Try.prog Try.f20 ps20 ms20 = some f20 := by kernel_rfl
theorem ok21 : rfunc Try.prog Try.f21 ps21 ms21 = some f21 := by kernel_rfl
theorem ok22 : rfunc Try.prog Try.f22 ps22 ms22 = some f22 := by kernel_rfl
theorem ok23 : rfunc Try.prog Try.f23 ps23 ms23 = some f23 := by kernel_rfl
theorem ok24 : rfunc Try.prog Try.f24 ps24 ms24 = some f24 := by kernel_rfl
theorem ok25 : rfunc Try.prog Try.f25 ps25 ms25 = some f25 := by kernel_rfl
theorem ok26 : rfunc Try.prog Try.f26 ps26 ms26 = some f26 := by kernel_rfl
theorem ok64 : rfunc Try.prog Try.f64 ps64 ms64 = some f64 := by kernel_rfl
theorem ok65 : rfunc Try.prog Try.f65 ps65 ms65 = some f65 := by kernel_rfl
theorem ok66 : rfunc Try.prog Try.f66 ps66 ms66 = some f66 := by kernel_rfl
theorem ok67 : rfunc Try.prog Try.f67 ps67 ms67 = some f67 := by kernel_rfl
theorem ok68 : rfunc Try.prog Try.f68 ps68 ms68 = some f68 := by kernel_rfl
theorem ok69 : rfunc Try.prog Try.f69 ps69 ms69 = some f69 := by kernel_rfl
theorem ok70 : rfunc Try.prog Try.f70 ps70 ms70 = some f70 := by kernel_rfl
theorem ok71 : rfunc Try.prog Try.f71 ps71 ms71 = some f71 := by kernel_rfl
theorem ok72 : rfunc Try.prog Try.f72 ps72 ms72 = some f72 := by kernel_rfl
theorem ok73 : rfunc Try.prog Try.f73 ps73 ms73 = some f73 := by kernel_rfl
theorem ok106 : rfunc Try.prog Try.f106 ps106 ms106 = some f106 := by kernel_rfl
def T : FuncId → Option IFunc
  | 3 => some f3
  | 4 => some f4
  | 5 => some f5
  | 6 => some f6
  | 14 => some f14
  | 15 => some f15
  | 16 => some f16
  | 17 => some f17
  | 18 => some f18
  | 19 => some f19
  | 20 => some f20
  | 21 => some f21
  | 22 => some f22
  | 23 => some f23
  | 24 => some f24
  | 25 => some f25
  | 26 => some f26
  | 64 => some f64
  | 65 => some f65
  | 66 => some f66
  | 67 => some f67
  | 68 => some f68
  | 69 => some f69
  | 70 => some f70
  | 71 => some f71
  | 72 => some f72
  | 73 => some f73
  | 106 => some f106
  | _ => none
theorem T_ok : TOk Try.prog T := by
  intro f i h
  unfold T at h
  split at h <;> cases h
  · exact ⟨_, _, _, Try.func3, ok3⟩
  · exact ⟨_, _, _, Try.func4, ok4⟩
  · exact ⟨_, _, _, Try.func5, ok5⟩
  · exact ⟨_, _, _, Try.func6, ok6⟩
  · exact ⟨_, _, _, Try.func14, ok14⟩
  · exact ⟨_, _, _, Try.func15, ok15⟩
  · exact ⟨_, _, _, Try.func16, ok16⟩
  · exact ⟨_, _, _, Try.func17, ok17⟩
  · exact ⟨_, _, _, Try.func18, ok18⟩
  · exact ⟨_, _, _, Try.func19, ok19⟩
  · exact ⟨_, _, _, Try.func20, ok20⟩
  · exact ⟨_, _, _, Try.func21, ok21⟩
  · exact ⟨_, _, _, Try.func22, ok22⟩
  · exact ⟨_, _, _, Try.func23, ok23⟩
  · exact ⟨_, _, _, Try.func24, ok24⟩
  · exact ⟨_, _, _, Try.func25, ok25⟩
  · exact ⟨_, _, _, Try.func26, ok26⟩
  · exact ⟨_, _, _, Try.func64, ok64⟩
  · exact ⟨_, _, _, Try.func65, ok65⟩
  · exact ⟨_, _, _, Try.func66, ok66⟩
  · exact ⟨_, _, _, Try.func67, ok67⟩
  · exact ⟨_, _, _, Try.func68, ok68⟩
  · exact ⟨_, _, _, Try.func69, ok69⟩
  · exact ⟨_, _, _, Try.func70, ok70⟩
  · exact ⟨_, _, _, Try.func71, ok71⟩
  · exact ⟨_, _, _, Try.func72, ok72⟩
  · exact ⟨_, _, _, Try.func73, ok73⟩
  · exact ⟨_, _, _, Try.func106, ok106⟩
end Go.Proofs.YtdehmopdlbdmfaaI
