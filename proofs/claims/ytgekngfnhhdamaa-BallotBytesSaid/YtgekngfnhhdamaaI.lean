/- The functions of the laws, told as the machine's; no conditions. -/
import Derived.Test.YtgekngfnhhdamaaProg
import Derived.Test.YtgekngfnhhdamaaM25
set_option maxRecDepth 100000
set_option linter.unusedVariables false
namespace Go.Proofs.YtgekngfnhhdamaaI
open Go Go.Proofs.YtgekngfnhhdamaaM
-- chatelaine/chatelainelaw01.CodeWrites
def r3_0 : List IOper := [⟨some 2, .mov (.c (.bool false)), none⟩]
def r3_1 : List IOper := [⟨some 5, .callF 13 [], none⟩,
  ⟨some 6, .un .not (.t 5), none⟩]
def r3_2 : List IOper := [⟨some 2, .mov (.c (.bool false)), none⟩]
def r3_3 : List IOper := [⟨some 8, .mov (.t 0), none⟩,
  ⟨some 9, .callF 15 [(.t 8)], none⟩,
  ⟨some 10, .callF 14 [(.t 9)], none⟩,
  ⟨some 7, .mov (.t 10), none⟩,
  ⟨some 11, .ext (.t 7) 0, none⟩,
  ⟨some 12, .ext (.t 7) 1, none⟩,
  ⟨some 3, .mov (.t 11), none⟩,
  ⟨some 4, .mov (.t 12), none⟩]
def r3_4 : List IOper := [⟨some 13, .mov (.t 3), none⟩,
  ⟨some 14, .mov (.t 4), none⟩,
  ⟨some 15, .bin .eql (.t 13) (.t 14), none⟩,
  ⟨some 2, .mov (.t 15), none⟩]
def b3 : ICode :=
 (.seq (.reg [(0, false)] r3_0)
 (.seq (.seq (.reg [(0, false), (1, false)] r3_1)
 (.cond (.t 6) (.seq (.reg [(0, false)] r3_2)
 .ret)
 .skip))
 (.seq (.reg [(0, false), (1, false), (2, false), (3, false), (4, false), (5, false), (6, false), (7, false)] r3_3)
 (.seq (.reg [(0, false), (1, false), (2, false), (3, false)] r3_4)
 .ret))))
def f3 : IFunc := { nt := 16, res := [((.t 2), none)], body := b3 }
def ps3 : List Phases := []
def ms3 : List (Option (List Nat)) := [none]
-- chatelaine/chatelainelaw01.CodeReads
def r4_0 : List IOper := [⟨some 4, .mov (.c (.bool false)), none⟩]
def r4_1 : List IOper := [⟨some 18, .callF 13 [], none⟩,
  ⟨some 19, .un .not (.t 18), none⟩]
def r4_2 : List IOper := [⟨some 4, .mov (.c (.bool false)), none⟩]
def r4_3 : List IOper := [⟨some 20, .mov (.t 0), none⟩,
  ⟨some 21, .callF 16 [(.t 20), (.c (.int .i64 500))], none⟩,
  ⟨some 0, .mov (.t 21), none⟩]
def r4_4 : List IOper := [⟨some 22, .mov (.t 0), none⟩,
  ⟨some 23, .callF 17 [(.t 22)], none⟩,
  ⟨some 24, .mov (.t 0), none⟩,
  ⟨some 25, .build [(.str (⟨#[]⟩ : ByteArray)), (.int .i64 0)] [(0, 1, (.t 24))], none⟩,
  ⟨some 6, .alloc [(.str (⟨#[]⟩ : ByteArray)), (.int .i64 0)], none⟩,
  ⟨some 5, .mov (.t 23), none⟩,
  ⟨none, .store 2 (.t 6) (.t 25), none⟩]
def r4_5 : List IOper := [⟨some 26, .mov (.t 1), none⟩,
  ⟨some 27, .callF 15 [(.t 26)], none⟩,
  ⟨some 28, .lenL (.t 27), none⟩,
  ⟨some 29, .mov (.c (.int .i64 0)), none⟩]
def r4_6 : List IOper := [⟨some 30, .bin .lss (.t 29) (.t 28), none⟩]
def r4_7 : List IOper := [⟨some 31, .ixS 4 (.t 27) (.t 29), none⟩,
  ⟨some 32, .load (some 4) (.t 31), none⟩,
  ⟨some 8, .alloc [(.int .i64 0), (.int .u64 0), (.int .i64 0), (.str (⟨#[]⟩ : ByteArray))], none⟩,
  ⟨none, .store 4 (.t 8) (.t 32), none⟩]
def r4_8 : List IOper := [⟨some 9, .mov (.c (.bool false)), none⟩]
def r4_9 : List IOper := [⟨some 33, .fld 0 (.t 8), none⟩,
  ⟨some 34, .load none (.t 33), none⟩]
def r4_10 : List IOper := [⟨some 50, .bin .eql (.t 34) (.c (.int .i64 0)), none⟩,
  ⟨some 49, .mov (.t 50), none⟩]
def r4_11 : List IOper := [⟨some 52, .load (some 2) (.t 6), none⟩,
  ⟨some 53, .callF 18 [(.t 52)], none⟩,
  ⟨some 51, .mov (.t 53), none⟩,
  ⟨some 54, .ext (.t 51) 0, none⟩,
  ⟨some 55, .ext (.t 51) 1, none⟩,
  ⟨some 10, .alloc [(.str (⟨#[]⟩ : ByteArray)), (.int .i64 0)], none⟩,
  ⟨none, .store 2 (.t 10) (.t 54), none⟩,
  ⟨some 11, .mov (.t 55), none⟩]
def r4_12 : List IOper := [⟨some 56, .load (some 2) (.t 10), none⟩,
  ⟨some 57, .mov (.t 5), none⟩,
  ⟨some 58, .callF 19 [(.t 57)], none⟩,
  ⟨some 59, .mov (.t 11), none⟩,
  ⟨some 60, .bin .eql (.t 58) (.t 59), none⟩,
  ⟨none, .store 2 (.t 6) (.t 56), none⟩,
  ⟨some 9, .mov (.t 60), none⟩]
def r4_13 : List IOper := [⟨some 62, .bin .eql (.t 34) (.c (.int .i64 1)), none⟩,
  ⟨some 61, .mov (.t 62), none⟩]
def r4_14 : List IOper := [⟨some 64, .load (some 2) (.t 6), none⟩,
  ⟨some 65, .fld 2 (.t 8), none⟩,
  ⟨some 66, .load none (.t 65), none⟩,
  ⟨some 67, .callF 20 [(.t 64), (.t 66)], none⟩,
  ⟨some 63, .mov (.t 67), none⟩,
  ⟨some 68, .ext (.t 63) 0, none⟩,
  ⟨some 69, .ext (.t 63) 1, none⟩,
  ⟨some 12, .alloc [(.str (⟨#[]⟩ : ByteArray)), (.int .i64 0)], none⟩,
  ⟨none, .store 2 (.t 12) (.t 68), none⟩,
  ⟨some 13, .mov (.t 69), none⟩]
def r4_15 : List IOper := [⟨some 70, .load (some 2) (.t 12), none⟩,
  ⟨some 71, .mov (.t 5), none⟩,
  ⟨some 72, .fld 2 (.t 8), none⟩,
  ⟨some 73, .load none (.t 72), none⟩,
  ⟨some 74, .callF 21 [(.t 71), (.t 73)], none⟩,
  ⟨some 75, .mov (.t 13), none⟩,
  ⟨some 76, .bin .eql (.t 74) (.t 75), none⟩,
  ⟨none, .store 2 (.t 6) (.t 70), none⟩,
  ⟨some 9, .mov (.t 76), none⟩]
def r4_16 : List IOper := [⟨some 78, .bin .eql (.t 34) (.c (.int .i64 2)), none⟩,
  ⟨some 77, .mov (.t 78), none⟩]
def r4_17 : List IOper := [⟨some 80, .load (some 2) (.t 6), none⟩,
  ⟨some 81, .callF 22 [(.t 80)], none⟩,
  ⟨some 79, .mov (.t 81), none⟩,
  ⟨some 82, .ext (.t 79) 0, none⟩,
  ⟨some 83, .ext (.t 79) 1, none⟩,
  ⟨some 14, .alloc [(.str (⟨#[]⟩ : ByteArray)), (.int .i64 0)], none⟩,
  ⟨none, .store 2 (.t 14) (.t 82), none⟩,
  ⟨some 15, .mov (.t 83), none⟩]
def r4_18 : List IOper := [⟨some 84, .load (some 2) (.t 14), none⟩,
  ⟨some 85, .mov (.t 5), none⟩,
  ⟨some 86, .callF 23 [(.t 85)], none⟩,
  ⟨some 87, .mov (.t 15), none⟩,
  ⟨some 88, .eqn 0 false (.t 86) (.t 87), none⟩,
  ⟨none, .store 2 (.t 6) (.t 84), none⟩,
  ⟨some 9, .mov (.t 88), none⟩]
def r4_19 : List IOper := [⟨some 36, .load (some 2) (.t 6), none⟩,
  ⟨some 37, .fld 2 (.t 8), none⟩,
  ⟨some 38, .load none (.t 37), none⟩,
  ⟨some 39, .callF 24 [(.t 36), (.t 38)], none⟩,
  ⟨some 35, .mov (.t 39), none⟩,
  ⟨some 40, .ext (.t 35) 0, none⟩,
  ⟨some 41, .ext (.t 35) 1, none⟩,
  ⟨some 16, .alloc [(.str (⟨#[]⟩ : ByteArray)), (.int .i64 0)], none⟩,
  ⟨none, .store 2 (.t 16) (.t 40), none⟩,
  ⟨some 17, .mov (.t 41), none⟩]
def r4_20 : List IOper := [⟨some 42, .load (some 2) (.t 16), none⟩,
  ⟨some 43, .mov (.t 5), none⟩,
  ⟨some 44, .fld 2 (.t 8), none⟩,
  ⟨some 45, .load none (.t 44), none⟩,
  ⟨some 46, .callF 25 [(.t 43), (.t 45)], none⟩,
  ⟨some 47, .mov (.t 17), none⟩,
  ⟨some 48, .bin .eql (.t 46) (.t 47), none⟩,
  ⟨none, .store 2 (.t 6) (.t 42), none⟩,
  ⟨some 9, .mov (.t 48), none⟩]
def r4_21 : List IOper := [⟨some 89, .mov (.t 9), none⟩,
  ⟨some 90, .un .not (.t 89), none⟩,
  ⟨some 91, .mov (.t 90), none⟩,
  ⟨some 92, .mov (.t 5), some (91, false)⟩,
  ⟨some 93, .callF 26 [(.t 92)], some (91, false)⟩,
  ⟨some 94, .fld 1 (.t 6), some (91, false)⟩,
  ⟨some 95, .load none (.t 94), some (91, false)⟩,
  ⟨some 96, .bin .neq (.t 93) (.t 95), some (91, false)⟩,
  ⟨some 97, .pick (.t 91) (.c (.bool true)) (.t 96), none⟩,
  ⟨some 98, .mov (.t 97), none⟩,
  ⟨some 99, .fld 1 (.t 6), some (98, false)⟩,
  ⟨some 100, .load none (.t 99), some (98, false)⟩,
  ⟨some 101, .bin .eql (.t 100) (.c (.int .i64 0)), some (98, false)⟩,
  ⟨some 102, .mov (.t 101), some (98, false)⟩,
  ⟨some 103, .mov (.t 5), some (102, true)⟩,
  ⟨some 104, .callF 27 [(.t 103)], some (102, true)⟩,
  ⟨some 105, .fld 0 (.t 6), some (102, true)⟩,
  ⟨some 106, .load none (.t 105), some (102, true)⟩,
  ⟨some 107, .lenS (.t 106), some (102, true)⟩,
  ⟨some 108, .bin .neq (.t 104) (.t 107), some (102, true)⟩,
  ⟨some 109, .pick (.t 102) (.t 108) (.c (.bool false)), some (98, false)⟩,
  ⟨some 110, .pick (.t 98) (.c (.bool true)) (.t 109), none⟩]
def r4_22 : List IOper := [⟨some 4, .mov (.c (.bool false)), none⟩]
def r4_23 : List IOper := [⟨some 111, .bin .add (.t 29) (.c (.int .i64 1)), none⟩,
  ⟨some 29, .mov (.t 111), none⟩]
def r4_24 : List IOper := [⟨some 112, .load (some 2) (.t 6), none⟩,
  ⟨some 113, .callF 28 [(.t 112)], none⟩,
  ⟨none, .store 2 (.t 6) (.t 113), none⟩]
def r4_25 : List IOper := [⟨some 114, .mov (.t 5), none⟩,
  ⟨some 115, .callF 29 [(.t 114)], none⟩,
  ⟨some 116, .fld 1 (.t 6), none⟩,
  ⟨some 117, .load none (.t 116), none⟩,
  ⟨some 118, .bin .eql (.t 115) (.t 117), none⟩,
  ⟨some 119, .mov (.t 118), none⟩,
  ⟨some 120, .mov (.t 5), some (119, true)⟩,
  ⟨some 121, .callF 26 [(.t 120)], some (119, true)⟩,
  ⟨some 122, .fld 1 (.t 6), some (119, true)⟩,
  ⟨some 123, .load none (.t 122), some (119, true)⟩,
  ⟨some 124, .bin .eql (.t 121) (.t 123), some (119, true)⟩,
  ⟨some 125, .pick (.t 119) (.t 124) (.c (.bool false)), none⟩,
  ⟨some 4, .mov (.t 125), none⟩]
def b4 : ICode :=
 (.seq (.reg [(0, false)] r4_0)
 (.seq (.seq (.reg [(0, false), (1, false)] r4_1)
 (.cond (.t 19) (.seq (.reg [(0, false)] r4_2)
 .ret)
 .skip))
 (.seq (.reg [(0, false), (1, false), (2, false)] r4_3)
 (.seq (.reg [(0, false), (1, false), (2, false), (3, false), (4, false), (5, false), (6, false)] r4_4)
 (.seq (.seq (.reg [(0, false), (1, false), (2, false), (3, false)] r4_5)
 (.seq (.block 0 (.loop (.seq (.mask [5, 6, 27, 28, 29]) (.seq (.reg [(0, false)] r4_6)
 (.seq (.cond (.t 30) .skip
 (.exit 0))
 (.seq (.seq (.block 1 (.seq (.reg [(0, false), (1, false), (2, false), (3, false)] r4_7)
 (.seq (.reg [(0, false)] r4_8)
 (.seq (.seq (.reg [(0, false), (1, false)] r4_9)
 (.seq (.block 2 (.seq (.reg [(0, false), (1, false)] r4_10)
 (.seq (.cond (.t 49) (.seq (.reg [(0, false), (1, false), (2, false), (3, false), (4, false), (5, false), (6, false), (7, false)] r4_11)
 (.reg [(0, false), (1, false), (3, false), (2, false), (0, true), (4, false), (5, false), (6, false)] r4_12))
 (.seq (.reg [(0, false), (1, false)] r4_13)
 (.seq (.cond (.t 61) (.seq (.reg [(0, false), (1, false), (2, false), (3, false), (4, false), (5, false), (6, false), (7, false), (8, false), (9, false)] r4_14)
 (.reg [(0, false), (1, false), (2, false), (3, false), (5, false), (4, false), (0, true), (6, false), (7, false), (8, false)] r4_15))
 (.seq (.reg [(0, false), (1, false)] r4_16)
 (.seq (.cond (.t 77) (.seq (.reg [(0, false), (1, false), (2, false), (3, false), (4, false), (5, false), (6, false), (7, false)] r4_17)
 (.reg [(0, false), (1, false), (3, false), (2, false), (0, true), (4, false), (5, false), (6, false)] r4_18))
 (.seq (.reg [(0, false), (1, false), (2, false), (3, false), (4, false), (5, false), (6, false), (7, false), (8, false), (9, false)] r4_19)
 (.reg [(0, false), (1, false), (2, false), (3, false), (5, false), (4, false), (0, true), (6, false), (7, false), (8, false)] r4_20))) (.mask [5, 6, 9, 27, 28, 29])))) (.mask [5, 6, 9, 27, 28, 29])))) (.mask [5, 6, 9, 27, 28, 29])))) (.mask [5, 6, 9, 27, 28, 29])))
 (.seq (.reg [(0, false), (1, false), (2, false), (3, false), (5, false), (6, false), (4, false), (6, true), (7, false), (8, false), (9, false), (10, false), (11, false), (12, false), (13, false), (14, false), (16, false), (17, false), (18, false), (15, false), (17, true), (19, false), (20, false), (21, false)] r4_21)
 (.cond (.t 110) (.seq (.reg [(0, false)] r4_22)
 .ret)
 .skip)))))) (.mask [5, 6, 27, 28, 29]))
 (.reg [(0, false), (1, false)] r4_23))))))) (.mask [5, 6])))
 (.seq (.reg [(0, false), (1, false), (2, false)] r4_24)
 (.seq (.reg [(0, false), (2, false), (3, false), (1, false), (3, true), (4, false), (5, false), (6, false), (8, false), (9, false), (7, false), (9, true), (10, false), (11, false), (12, false)] r4_25)
 .ret)))))))
def f4 : IFunc := { nt := 126, res := [((.t 4), none)], body := b4 }
def ps4 : List Phases := [⟨[([(0, false), (1, false), (3, false)], 2), ([(0, true), (4, false)], 5)], [(6, false)]⟩, ⟨[([(0, false), (1, false), (2, false), (3, false), (5, false)], 4), ([(0, true), (6, false)], 7)], [(8, false)]⟩, ⟨[([(0, false), (1, false), (3, false)], 2), ([(0, true), (4, false)], 5)], [(6, false)]⟩, ⟨[([(0, false), (1, false), (2, false), (3, false), (5, false)], 4), ([(0, true), (6, false)], 7)], [(8, false)]⟩, ⟨[([(0, false), (1, false), (2, false), (3, false), (5, false), (6, false)], 4), ([(6, true), (7, false), (8, false), (9, false), (10, false), (11, false), (12, false), (13, false), (14, false), (16, false), (17, false), (18, false)], 15)], [(17, true), (19, false), (20, false), (21, false)]⟩, ⟨[([(0, false), (2, false), (3, false)], 1), ([(3, true), (4, false), (5, false), (6, false), (8, false), (9, false)], 7)], [(9, true), (10, false), (11, false), (12, false)]⟩]
def ms4 : List (Option (List Nat)) := [none, some [5, 6, 27, 28, 29], none, some [5, 6, 9, 27, 28, 29], some [5, 6, 9, 27, 28, 29], some [5, 6, 9, 27, 28, 29], some [5, 6, 9, 27, 28, 29], none, some [5, 6, 27, 28, 29], some [5, 6]]
-- chatelaine/chatelainelaw01.CodeOnce
def r5_0 : List IOper := [⟨some 4, .mov (.c (.bool false)), none⟩]
def r5_1 : List IOper := [⟨some 11, .callF 13 [], none⟩,
  ⟨some 12, .un .not (.t 11), none⟩]
def r5_2 : List IOper := [⟨some 4, .mov (.c (.bool false)), none⟩]
def r5_3 : List IOper := [⟨some 13, .mov (.t 0), none⟩,
  ⟨some 14, .callF 16 [(.t 13), (.c (.int .i64 200))], none⟩,
  ⟨some 0, .mov (.t 14), none⟩]
def r5_4 : List IOper := [⟨some 15, .mov (.t 0), none⟩,
  ⟨some 16, .callF 17 [(.t 15)], none⟩,
  ⟨some 5, .mov (.t 16), none⟩]
def r5_5 : List IOper := [⟨some 6, .alloc [.nils], none⟩]
def r5_6 : List IOper := [⟨some 17, .mov (.t 5), none⟩,
  ⟨some 18, .callF 27 [(.t 17)], none⟩,
  ⟨some 19, .bin .gtr (.t 18) (.c (.int .i64 0)), none⟩,
  ⟨some 20, .mov (.t 19), none⟩,
  ⟨some 21, .mov (.t 5), some (20, true)⟩,
  ⟨some 22, .callF 26 [(.t 21)], some (20, true)⟩,
  ⟨some 23, .bin .eql (.t 22) (.c (.int .i64 0)), some (20, true)⟩,
  ⟨some 24, .pick (.t 20) (.t 23) (.c (.bool false)), none⟩]
def r5_7 : List IOper := [⟨some 25, .mov (.t 5), none⟩,
  ⟨some 26, .callF 27 [(.t 25)], none⟩,
  ⟨some 7, .mov (.t 26), none⟩]
def r5_8 : List IOper := [⟨some 27, .mov (.t 5), none⟩,
  ⟨some 28, .callF 19 [(.t 27)], none⟩,
  ⟨some 8, .mov (.t 28), none⟩]
def r5_9 : List IOper := [⟨some 29, .mov (.t 5), none⟩,
  ⟨some 30, .callF 26 [(.t 29)], none⟩,
  ⟨some 31, .bin .eql (.t 30) (.c (.int .i64 0)), none⟩]
def r5_10 : List IOper := [⟨some 32, .mov (.t 8), none⟩,
  ⟨some 33, .buildS 1 1 [(.int .u64 0)] [(0, (.t 32))], none⟩,
  ⟨some 34, .callF 30 [(.t 6), (.t 33)], none⟩]
def r5_11 : List IOper := [⟨some 35, .mov (.t 5), none⟩,
  ⟨some 36, .callF 26 [(.t 35)], none⟩,
  ⟨some 37, .bin .eql (.t 36) (.c (.int .i64 0)), none⟩,
  ⟨some 38, .mov (.t 37), none⟩,
  ⟨some 39, .mov (.t 5), some (38, true)⟩,
  ⟨some 40, .callF 27 [(.t 39)], some (38, true)⟩,
  ⟨some 41, .mov (.t 7), some (38, true)⟩,
  ⟨some 42, .bin .geq (.t 40) (.t 41), some (38, true)⟩,
  ⟨some 43, .pick (.t 38) (.t 42) (.c (.bool false)), none⟩]
def r5_12 : List IOper := [⟨some 4, .mov (.c (.bool false)), none⟩]
def r5_13 : List IOper := [⟨some 44, .callF 31 [(.t 6)], none⟩,
  ⟨some 9, .mov (.t 44), none⟩]
def r5_14 : List IOper := [⟨some 45, .mov (.t 5), none⟩,
  ⟨some 46, .callF 26 [(.t 45)], none⟩,
  ⟨some 47, .bin .eql (.t 46) (.c (.int .i64 0)), none⟩]
def r5_15 : List IOper := [⟨some 48, .mov (.t 9), none⟩,
  ⟨some 49, .mov (.t 0), none⟩,
  ⟨some 50, .bin .eql (.t 48) (.t 49), none⟩,
  ⟨some 4, .mov (.t 50), none⟩]
def r5_16 : List IOper := [⟨some 51, .mov (.t 5), none⟩,
  ⟨some 52, .callF 26 [(.t 51)], none⟩,
  ⟨some 10, .mov (.t 52), none⟩]
def r5_17 : List IOper := [⟨some 53, .mov (.t 5), none⟩,
  ⟨some 54, .callF 32 [(.t 53), (.c (.int .i64 7))], none⟩]
def r5_18 : List IOper := [⟨some 55, .mov (.t 9), none⟩,
  ⟨some 56, .lenS (.t 55), none⟩,
  ⟨some 57, .mov (.t 0), none⟩,
  ⟨some 58, .lenS (.t 57), none⟩,
  ⟨some 59, .bin .lss (.t 56) (.t 58), none⟩,
  ⟨some 60, .mov (.t 59), none⟩,
  ⟨some 61, .mov (.t 0), some (60, true)⟩,
  ⟨some 62, .mov (.t 9), some (60, true)⟩,
  ⟨some 63, .lenS (.t 62), some (60, true)⟩,
  ⟨some 64, .slcStr (.t 61) none (some (.t 63)), some (60, true)⟩,
  ⟨some 65, .mov (.t 9), some (60, true)⟩,
  ⟨some 66, .bin .eql (.t 64) (.t 65), some (60, true)⟩,
  ⟨some 67, .pick (.t 60) (.t 66) (.c (.bool false)), none⟩,
  ⟨some 68, .mov (.t 67), none⟩,
  ⟨some 69, .mov (.t 5), some (68, true)⟩,
  ⟨some 70, .callF 26 [(.t 69)], some (68, true)⟩,
  ⟨some 71, .mov (.t 10), some (68, true)⟩,
  ⟨some 72, .bin .eql (.t 70) (.t 71), some (68, true)⟩,
  ⟨some 73, .pick (.t 68) (.t 72) (.c (.bool false)), none⟩,
  ⟨some 74, .mov (.t 73), none⟩,
  ⟨some 75, .mov (.t 5), some (74, true)⟩,
  ⟨some 76, .callF 19 [(.t 75)], some (74, true)⟩,
  ⟨some 77, .bin .eql (.t 76) (.c (.int .u64 0)), some (74, true)⟩,
  ⟨some 78, .pick (.t 74) (.t 77) (.c (.bool false)), none⟩,
  ⟨some 79, .mov (.t 78), none⟩,
  ⟨some 80, .mov (.t 5), some (79, true)⟩,
  ⟨some 81, .mov (.t 1), some (79, true)⟩,
  ⟨some 82, .callF 21 [(.t 80), (.t 81)], some (79, true)⟩,
  ⟨some 83, .bin .eql (.t 82) (.c (.int .i64 0)), some (79, true)⟩,
  ⟨some 84, .pick (.t 79) (.t 83) (.c (.bool false)), none⟩,
  ⟨some 85, .mov (.t 84), none⟩,
  ⟨some 86, .mov (.t 5), some (85, true)⟩,
  ⟨some 87, .callF 23 [(.t 86)], some (85, true)⟩,
  ⟨some 88, .un .not (.t 87), some (85, true)⟩,
  ⟨some 89, .pick (.t 85) (.t 88) (.c (.bool false)), none⟩,
  ⟨some 90, .mov (.t 89), none⟩,
  ⟨some 91, .mov (.t 5), some (90, true)⟩,
  ⟨some 92, .mov (.t 1), some (90, true)⟩,
  ⟨some 93, .callF 25 [(.t 91), (.t 92)], some (90, true)⟩,
  ⟨some 94, .bin .eql (.t 93) (.c (.str (⟨#[]⟩ : ByteArray))), some (90, true)⟩,
  ⟨some 95, .pick (.t 90) (.t 94) (.c (.bool false)), none⟩,
  ⟨some 96, .mov (.t 95), none⟩,
  ⟨some 97, .mov (.t 5), some (96, true)⟩,
  ⟨some 98, .callF 29 [(.t 97)], some (96, true)⟩,
  ⟨some 99, .mov (.t 10), some (96, true)⟩,
  ⟨some 100, .bin .eql (.t 98) (.t 99), some (96, true)⟩,
  ⟨some 101, .pick (.t 96) (.t 100) (.c (.bool false)), none⟩,
  ⟨some 102, .mov (.t 101), none⟩,
  ⟨some 103, .mov (.t 10), some (102, true)⟩,
  ⟨some 104, .bin .eql (.t 103) (.c (.int .i64 3)), some (102, true)⟩,
  ⟨some 105, .mov (.t 104), some (102, true)⟩,
  ⟨some 106, .mov (.t 10), some (105, false)⟩,
  ⟨some 107, .bin .eql (.t 106) (.c (.int .i64 4)), some (105, false)⟩,
  ⟨some 108, .pick (.t 105) (.c (.bool true)) (.t 107), some (102, true)⟩,
  ⟨some 109, .pick (.t 102) (.t 108) (.c (.bool false)), none⟩,
  ⟨some 4, .mov (.t 109), none⟩]
def b5 : ICode :=
 (.seq (.reg [(0, false)] r5_0)
 (.seq (.seq (.reg [(0, false), (1, false)] r5_1)
 (.cond (.t 12) (.seq (.reg [(0, false)] r5_2)
 .ret)
 .skip))
 (.seq (.reg [(0, false), (1, false), (2, false)] r5_3)
 (.seq (.reg [(0, false), (1, false), (2, false)] r5_4)
 (.seq (.reg [(0, false)] r5_5)
 (.seq (.seq (.block 0 (.loop (.seq (.mask [0, 1, 5, 6]) (.seq (.seq (.reg [(0, false), (1, false), (2, false), (3, false), (4, false), (5, false), (6, false), (7, false)] r5_6)
 (.cond (.t 24) .skip
 (.exit 0)))
 (.seq (.block 1 (.seq (.reg [(0, false), (1, false), (2, false)] r5_7)
 (.seq (.reg [(0, false), (1, false), (2, false)] r5_8)
 (.seq (.seq (.reg [(0, false), (1, false), (2, false)] r5_9)
 (.seq (.cond (.t 31) (.reg [(0, false), (1, false), (2, false)] r5_10)
 .skip) (.mask [0, 1, 5, 6, 7])))
 (.seq (.reg [(0, false), (1, false), (2, false), (3, false), (4, false), (5, false), (6, false), (7, false), (8, false)] r5_11)
 (.cond (.t 43) (.seq (.reg [(0, false)] r5_12)
 .ret)
 .skip)))))) (.mask [0, 1, 5, 6])))))) (.mask [0, 1, 5, 6]))
 (.seq (.reg [(0, false), (1, false)] r5_13)
 (.seq (.seq (.reg [(0, false), (1, false), (2, false)] r5_14)
 (.cond (.t 47) (.seq (.reg [(0, false), (1, false), (2, false), (3, false)] r5_15)
 .ret)
 .skip))
 (.seq (.reg [(0, false), (1, false), (2, false)] r5_16)
 (.seq (.reg [(0, false), (1, false)] r5_17)
 (.seq (.reg [(0, false), (1, false), (2, false), (3, false), (4, false), (5, false), (6, false), (7, false), (8, false), (9, false), (10, false), (11, false), (12, false), (13, false), (14, false), (15, false), (16, false), (17, false), (18, false), (19, false), (20, false), (21, false), (22, false), (23, false), (24, false), (25, false), (26, false), (27, false), (28, false), (29, false), (30, false), (31, false), (32, false), (33, false), (34, false), (35, false), (36, false), (37, false), (38, false), (39, false), (40, false), (41, false), (42, false), (43, false), (44, false), (45, false), (46, false), (47, false), (48, false), (49, false), (50, false), (51, false), (52, false), (53, false), (54, false), (55, false)] r5_18)
 .ret)))))))))))
def f5 : IFunc := { nt := 110, res := [((.t 4), none)], body := b5 }
def ps5 : List Phases := []
def ms5 : List (Option (List Nat)) := [none, some [0, 1, 5, 6], none, some [0, 1, 5, 6, 7], none, some [0, 1, 5, 6], some [0, 1, 5, 6], none]
-- chatelaine/chatelainelaw01.CodeBack
def r6_0 : List IOper := [⟨some 2, .mov (.c (.bool false)), none⟩]
def r6_1 : List IOper := [⟨some 9, .callF 13 [], none⟩,
  ⟨some 10, .un .not (.t 9), none⟩]
def r6_2 : List IOper := [⟨some 2, .mov (.c (.bool false)), none⟩]
def r6_3 : List IOper := [⟨some 11, .mov (.t 0), none⟩,
  ⟨some 12, .callF 15 [(.t 11)], none⟩,
  ⟨some 0, .mov (.t 12), none⟩]
def r6_4 : List IOper := [⟨some 14, .mov (.t 0), none⟩,
  ⟨some 15, .callF 14 [(.t 14)], none⟩,
  ⟨some 13, .mov (.t 15), none⟩,
  ⟨some 16, .ext (.t 13) 0, none⟩,
  ⟨some 17, .ext (.t 13) 1, none⟩,
  ⟨some 3, .mov (.t 16), none⟩,
  ⟨some 4, .mov (.t 17), none⟩]
def r6_5 : List IOper := [⟨some 18, .mov (.t 3), none⟩,
  ⟨some 19, .callF 17 [(.t 18)], none⟩,
  ⟨some 5, .mov (.t 19), none⟩]
def r6_6 : List IOper := [⟨some 20, .mov (.t 0), none⟩,
  ⟨some 21, .lenL (.t 20), none⟩,
  ⟨some 22, .mov (.c (.int .i64 0)), none⟩]
def r6_7 : List IOper := [⟨some 23, .bin .lss (.t 22) (.t 21), none⟩]
def r6_8 : List IOper := [⟨some 24, .ixS 4 (.t 20) (.t 22), none⟩,
  ⟨some 25, .load (some 4) (.t 24), none⟩,
  ⟨some 7, .alloc [(.int .i64 0), (.int .u64 0), (.int .i64 0), (.str (⟨#[]⟩ : ByteArray))], none⟩,
  ⟨none, .store 4 (.t 7) (.t 25), none⟩]
def r6_9 : List IOper := [⟨some 8, .mov (.c (.bool false)), none⟩]
def r6_10 : List IOper := [⟨some 26, .fld 0 (.t 7), none⟩,
  ⟨some 27, .load none (.t 26), none⟩]
def r6_11 : List IOper := [⟨some 34, .bin .eql (.t 27) (.c (.int .i64 0)), none⟩,
  ⟨some 33, .mov (.t 34), none⟩]
def r6_12 : List IOper := [⟨some 35, .mov (.t 5), none⟩,
  ⟨some 36, .callF 19 [(.t 35)], none⟩,
  ⟨some 37, .fld 1 (.t 7), none⟩,
  ⟨some 38, .load none (.t 37), none⟩,
  ⟨some 39, .bin .eql (.t 36) (.t 38), none⟩,
  ⟨some 8, .mov (.t 39), none⟩]
def r6_13 : List IOper := [⟨some 41, .bin .eql (.t 27) (.c (.int .i64 1)), none⟩,
  ⟨some 40, .mov (.t 41), none⟩]
def r6_14 : List IOper := [⟨some 42, .mov (.t 5), none⟩,
  ⟨some 43, .callF 21 [(.t 42), (.c (.int .i64 9223372036854775807))], none⟩,
  ⟨some 44, .fld 2 (.t 7), none⟩,
  ⟨some 45, .load none (.t 44), none⟩,
  ⟨some 46, .maxi [(.t 45), (.c (.int .i64 0))], none⟩,
  ⟨some 47, .bin .eql (.t 43) (.t 46), none⟩,
  ⟨some 8, .mov (.t 47), none⟩]
def r6_15 : List IOper := [⟨some 49, .bin .eql (.t 27) (.c (.int .i64 2)), none⟩,
  ⟨some 48, .mov (.t 49), none⟩]
def r6_16 : List IOper := [⟨some 50, .mov (.t 5), none⟩,
  ⟨some 51, .callF 23 [(.t 50)], none⟩,
  ⟨some 52, .fld 2 (.t 7), none⟩,
  ⟨some 53, .load none (.t 52), none⟩,
  ⟨some 54, .bin .gtr (.t 53) (.c (.int .i64 0)), none⟩,
  ⟨some 55, .eqn 0 false (.t 51) (.t 54), none⟩,
  ⟨some 8, .mov (.t 55), none⟩]
def r6_17 : List IOper := [⟨some 28, .mov (.t 5), none⟩,
  ⟨some 29, .callF 25 [(.t 28), (.c (.int .i64 300))], none⟩,
  ⟨some 30, .fld 3 (.t 7), none⟩,
  ⟨some 31, .load none (.t 30), none⟩,
  ⟨some 32, .bin .eql (.t 29) (.t 31), none⟩,
  ⟨some 8, .mov (.t 32), none⟩]
def r6_18 : List IOper := [⟨some 56, .mov (.t 8), none⟩,
  ⟨some 57, .un .not (.t 56), none⟩]
def r6_19 : List IOper := [⟨some 2, .mov (.c (.bool false)), none⟩]
def r6_20 : List IOper := [⟨some 58, .bin .add (.t 22) (.c (.int .i64 1)), none⟩,
  ⟨some 22, .mov (.t 58), none⟩]
def r6_21 : List IOper := [⟨some 59, .mov (.t 5), none⟩,
  ⟨some 60, .callF 29 [(.t 59)], none⟩,
  ⟨some 61, .bin .eql (.t 60) (.c (.int .i64 0)), none⟩,
  ⟨some 2, .mov (.t 61), none⟩]
def b6 : ICode :=
 (.seq (.reg [(0, false)] r6_0)
 (.seq (.seq (.reg [(0, false), (1, false)] r6_1)
 (.cond (.t 10) (.seq (.reg [(0, false)] r6_2)
 .ret)
 .skip))
 (.seq (.reg [(0, false), (1, false), (2, false)] r6_3)
 (.seq (.reg [(0, false), (1, false), (2, false), (3, false), (4, false), (5, false), (6, false)] r6_4)
 (.seq (.reg [(0, false), (1, false), (2, false)] r6_5)
 (.seq (.seq (.reg [(0, false), (1, false), (2, false)] r6_6)
 (.seq (.block 0 (.loop (.seq (.mask [5, 20, 21, 22]) (.seq (.reg [(0, false)] r6_7)
 (.seq (.cond (.t 23) .skip
 (.exit 0))
 (.seq (.seq (.block 1 (.seq (.reg [(0, false), (1, false), (2, false), (3, false)] r6_8)
 (.seq (.reg [(0, false)] r6_9)
 (.seq (.seq (.reg [(0, false), (1, false)] r6_10)
 (.seq (.block 2 (.seq (.reg [(0, false), (1, false)] r6_11)
 (.seq (.cond (.t 33) (.reg [(0, false), (2, false), (3, false), (1, false), (3, true), (4, false), (5, false)] r6_12)
 (.seq (.reg [(0, false), (1, false)] r6_13)
 (.seq (.cond (.t 40) (.reg [(0, false), (2, false), (3, false), (4, false), (1, false), (3, true), (5, false), (6, false)] r6_14)
 (.seq (.reg [(0, false), (1, false)] r6_15)
 (.seq (.cond (.t 48) (.reg [(0, false), (2, false), (3, false), (4, false), (1, false), (3, true), (5, false), (6, false)] r6_16)
 (.reg [(0, false), (2, false), (3, false), (1, false), (3, true), (4, false), (5, false)] r6_17)) (.mask [5, 8, 20, 21, 22])))) (.mask [5, 8, 20, 21, 22])))) (.mask [5, 8, 20, 21, 22])))) (.mask [5, 8, 20, 21, 22])))
 (.seq (.reg [(0, false), (1, false)] r6_18)
 (.cond (.t 57) (.seq (.reg [(0, false)] r6_19)
 .ret)
 .skip)))))) (.mask [5, 20, 21, 22]))
 (.reg [(0, false), (1, false)] r6_20))))))) (.mask [5])))
 (.seq (.reg [(0, false), (1, false), (2, false), (3, false)] r6_21)
 .ret)))))))
def f6 : IFunc := { nt := 62, res := [((.t 2), none)], body := b6 }
def ps6 : List Phases := [⟨[([(0, false), (2, false), (3, false)], 1)], [(3, true), (4, false), (5, false)]⟩, ⟨[([(0, false), (2, false), (3, false), (4, false)], 1)], [(3, true), (5, false), (6, false)]⟩, ⟨[([(0, false), (2, false), (3, false), (4, false)], 1)], [(3, true), (5, false), (6, false)]⟩, ⟨[([(0, false), (2, false), (3, false)], 1)], [(3, true), (4, false), (5, false)]⟩]
def ms6 : List (Option (List Nat)) := [none, some [5, 20, 21, 22], none, some [5, 8, 20, 21, 22], some [5, 8, 20, 21, 22], some [5, 8, 20, 21, 22], some [5, 8, 20, 21, 22], none, some [5, 20, 21, 22], some [5]]
-- chatelaine/chatelainelaw08.BallotBytes
def r7_0 : List IOper := [⟨some 2, .box 2 (.t 0), none⟩,
  ⟨some 4, .mov (.c (.bool false)), none⟩]
def r7_1 : List IOper := [⟨some 11, .callF 33 [], none⟩,
  ⟨some 12, .un .not (.t 11), none⟩]
def r7_2 : List IOper := [⟨some 4, .mov (.c (.bool false)), none⟩]
def r7_3 : List IOper := [⟨some 13, .load (some 2) (.t 2), none⟩,
  ⟨some 14, .callF 34 [(.t 13)], none⟩,
  ⟨none, .store 2 (.t 2) (.t 14), none⟩]
def r7_4 : List IOper := [⟨some 5, .alloc [.nils], none⟩]
def r7_5 : List IOper := [⟨some 15, .load (some 2) (.t 2), none⟩,
  ⟨some 16, .callF 35 [(.t 15), (.t 5)], none⟩]
def r7_6 : List IOper := [⟨some 17, .callF 31 [(.t 5)], none⟩,
  ⟨some 18, .callF 17 [(.t 17)], none⟩,
  ⟨some 6, .mov (.t 18), none⟩]
def r7_7 : List IOper := [⟨some 19, .callF 31 [(.t 5)], none⟩,
  ⟨some 20, .load (some 2) (.t 2), none⟩,
  ⟨some 21, .callF 36 [(.t 20)], none⟩,
  ⟨some 22, .bin .neq (.t 19) (.t 21), none⟩,
  ⟨some 23, .mov (.t 22), none⟩,
  ⟨some 24, .mov (.t 6), some (23, false)⟩,
  ⟨some 25, .callF 37 [(.t 24)], some (23, false)⟩,
  ⟨some 26, .load (some 2) (.t 2), some (23, false)⟩,
  ⟨some 27, .eqs true [1, 1] (.t 25) (.t 26), some (23, false)⟩,
  ⟨some 28, .pick (.t 23) (.c (.bool true)) (.t 27), none⟩,
  ⟨some 29, .mov (.t 28), none⟩,
  ⟨some 30, .mov (.t 6), some (29, false)⟩,
  ⟨some 31, .callF 29 [(.t 30)], some (29, false)⟩,
  ⟨some 32, .bin .neq (.t 31) (.c (.int .i64 0)), some (29, false)⟩,
  ⟨some 33, .pick (.t 29) (.c (.bool true)) (.t 32), none⟩]
def r7_8 : List IOper := [⟨some 4, .mov (.c (.bool false)), none⟩]
def r7_9 : List IOper := [⟨some 34, .mov (.t 1), none⟩,
  ⟨some 35, .callF 16 [(.t 34), (.c (.int .i64 40))], none⟩,
  ⟨some 1, .mov (.t 35), none⟩]
def r7_10 : List IOper := [⟨some 36, .mov (.t 1), none⟩,
  ⟨some 37, .callF 17 [(.t 36)], none⟩,
  ⟨some 7, .mov (.t 37), none⟩]
def r7_11 : List IOper := [⟨some 38, .mov (.t 7), none⟩,
  ⟨some 39, .callF 37 [(.t 38)], none⟩,
  ⟨some 8, .alloc [(.int .u64 0), (.int .i64 0)], none⟩,
  ⟨none, .store 2 (.t 8) (.t 39), none⟩]
def r7_12 : List IOper := [⟨some 41, .mov (.t 1), none⟩,
  ⟨some 42, .build [(.str (⟨#[]⟩ : ByteArray)), (.int .i64 0)] [(0, 1, (.t 41))], none⟩,
  ⟨some 43, .callF 38 [(.t 42)], none⟩,
  ⟨some 40, .mov (.t 43), none⟩,
  ⟨some 44, .ext (.t 40) 0, none⟩,
  ⟨some 45, .ext (.t 40) 1, none⟩,
  ⟨some 9, .alloc [(.str (⟨#[]⟩ : ByteArray)), (.int .i64 0)], none⟩,
  ⟨some 10, .alloc [(.int .u64 0), (.int .i64 0)], none⟩,
  ⟨none, .store 2 (.t 9) (.t 44), none⟩,
  ⟨none, .store 2 (.t 10) (.t 45), none⟩]
def r7_13 : List IOper := [⟨some 46, .load (some 2) (.t 8), none⟩,
  ⟨some 47, .load (some 2) (.t 10), none⟩,
  ⟨some 48, .eqs false [1, 1] (.t 46) (.t 47), none⟩,
  ⟨some 49, .mov (.t 48), none⟩,
  ⟨some 50, .mov (.t 7), some (49, true)⟩,
  ⟨some 51, .callF 26 [(.t 50)], some (49, true)⟩,
  ⟨some 52, .fld 1 (.t 9), some (49, true)⟩,
  ⟨some 53, .load none (.t 52), some (49, true)⟩,
  ⟨some 54, .bin .eql (.t 51) (.t 53), some (49, true)⟩,
  ⟨some 55, .pick (.t 49) (.t 54) (.c (.bool false)), none⟩,
  ⟨some 56, .mov (.t 55), none⟩,
  ⟨some 57, .fld 1 (.t 9), some (56, true)⟩,
  ⟨some 58, .load none (.t 57), some (56, true)⟩,
  ⟨some 59, .bin .neq (.t 58) (.c (.int .i64 0)), some (56, true)⟩,
  ⟨some 60, .mov (.t 59), some (56, true)⟩,
  ⟨some 61, .mov (.t 7), some (60, false)⟩,
  ⟨some 62, .callF 27 [(.t 61)], some (60, false)⟩,
  ⟨some 63, .fld 0 (.t 9), some (60, false)⟩,
  ⟨some 64, .load none (.t 63), some (60, false)⟩,
  ⟨some 65, .lenS (.t 64), some (60, false)⟩,
  ⟨some 66, .bin .eql (.t 62) (.t 65), some (60, false)⟩,
  ⟨some 67, .pick (.t 60) (.c (.bool true)) (.t 66), some (56, true)⟩,
  ⟨some 68, .pick (.t 56) (.t 67) (.c (.bool false)), none⟩,
  ⟨some 4, .mov (.t 68), none⟩]
def b7 : ICode :=
 (.seq (.reg [(0, false), (1, false)] r7_0)
 (.seq (.seq (.reg [(0, false), (1, false)] r7_1)
 (.cond (.t 12) (.seq (.reg [(0, false)] r7_2)
 .ret)
 .skip))
 (.seq (.reg [(0, false), (1, false), (2, false)] r7_3)
 (.seq (.reg [(0, false)] r7_4)
 (.seq (.reg [(0, false), (1, false)] r7_5)
 (.seq (.reg [(0, false), (1, false), (2, false)] r7_6)
 (.seq (.seq (.reg [(1, false), (0, false), (1, true), (2, false), (3, false), (4, false), (5, false), (7, false), (6, false), (7, true), (8, false), (9, false), (10, false), (11, false), (12, false), (13, false), (14, false)] r7_7)
 (.cond (.t 33) (.seq (.reg [(0, false)] r7_8)
 .ret)
 .skip))
 (.seq (.reg [(0, false), (1, false), (2, false)] r7_9)
 (.seq (.reg [(0, false), (1, false), (2, false)] r7_10)
 (.seq (.reg [(0, false), (1, false), (2, false), (3, false)] r7_11)
 (.seq (.reg [(0, false), (1, false), (2, false), (3, false), (4, false), (5, false), (6, false), (7, false), (8, false), (9, false)] r7_12)
 (.seq (.reg [(0, false), (1, false), (2, false), (3, false), (4, false), (6, false), (7, false), (5, false), (7, true), (8, false), (9, false), (10, false), (11, false), (12, false), (13, false), (14, false), (15, false), (17, false), (18, false), (19, false), (16, false), (18, true), (20, false), (21, false), (22, false), (23, false)] r7_13)
 .ret))))))))))))
def f7 : IFunc := { nt := 69, res := [((.t 4), none)], body := b7 }
def ps7 : List Phases := [⟨[([(1, false)], 0), ([(1, true)], 2), ([(3, false), (4, false), (5, false), (7, false)], 6), ([(7, true), (8, false), (9, false), (10, false), (11, false)], 12)], [(13, false), (14, false)]⟩, ⟨[([(0, false), (1, false), (2, false), (3, false), (4, false), (6, false), (7, false)], 5), ([(7, true), (8, false), (9, false), (10, false), (11, false), (12, false), (13, false), (14, false), (15, false), (17, false), (18, false), (19, false)], 16)], [(18, true), (20, false), (21, false), (22, false), (23, false)]⟩]
def ms7 : List (Option (List Nat)) := [none, none]
-- chatelaine/chatelainelaw01.awake
def r13_0 : List IOper := [⟨some 0, .mov (.c (.bool false)), none⟩]
def r13_1 : List IOper := [⟨some 1, .alloc [.nils], none⟩]
def r13_2 : List IOper := [⟨some 2, .buildS 1 2 [(.int .u64 0)] [(0, (.c (.int .u64 5))), (1, (.c (.int .u64 300)))], none⟩,
  ⟨some 3, .callF 30 [(.t 1), (.t 2)], none⟩,
  ⟨some 4, .buildS 1 1 [(.str (⟨#[]⟩ : ByteArray))] [(0, (.c (.str (⟨#[97, 98]⟩ : ByteArray))))], none⟩,
  ⟨some 5, .callF 41 [(.t 3), (.t 4)], none⟩,
  ⟨some 6, .callF 31 [(.t 5)], none⟩,
  ⟨some 7, .bin .eql (.t 6) (.c (.str (⟨#[5, 252, 1, 44, 2, 97, 98]⟩ : ByteArray))), none⟩,
  ⟨some 8, .mov (.t 7), none⟩,
  ⟨some 9, .callF 17 [(.c (.str (⟨#[252, 0, 5]⟩ : ByteArray)))], some (8, true)⟩,
  ⟨some 10, .callF 29 [(.t 9)], some (8, true)⟩,
  ⟨some 11, .bin .eql (.t 10) (.c (.int .i64 4)), some (8, true)⟩,
  ⟨some 12, .pick (.t 8) (.t 11) (.c (.bool false)), none⟩,
  ⟨some 0, .mov (.t 12), none⟩]
def b13 : ICode :=
 (.seq (.reg [(0, false)] r13_0)
 (.seq (.reg [(0, false)] r13_1)
 (.seq (.reg [(0, false), (1, false), (2, false), (3, false), (4, false), (5, false), (6, false), (7, false), (8, false), (9, false), (10, false), (11, false)] r13_2)
 .ret)))
def f13 : IFunc := { nt := 13, res := [((.t 0), none)], body := b13 }
def ps13 : List Phases := []
def ms13 : List (Option (List Nat)) := []
-- chatelaine/chatelainelaw01.written
def r14_0 : List IOper := [⟨some 2, .mov (.c (.str (⟨#[]⟩ : ByteArray))), none⟩,
  ⟨some 3, .mov (.c (.str (⟨#[]⟩ : ByteArray))), none⟩]
def r14_1 : List IOper := [⟨some 4, .alloc [.nils], none⟩]
def r14_2 : List IOper := [⟨some 5, .mov (.c (.str (⟨#[]⟩ : ByteArray))), none⟩]
def r14_3 : List IOper := [⟨some 8, .mov (.t 0), none⟩,
  ⟨some 9, .lenL (.t 8), none⟩,
  ⟨some 10, .mov (.c (.int .i64 0)), none⟩]
def r14_4 : List IOper := [⟨some 11, .bin .lss (.t 10) (.t 9), none⟩]
def r14_5 : List IOper := [⟨some 12, .ixS 4 (.t 8) (.t 10), none⟩,
  ⟨some 13, .load (some 4) (.t 12), none⟩,
  ⟨some 7, .alloc [(.int .i64 0), (.int .u64 0), (.int .i64 0), (.str (⟨#[]⟩ : ByteArray))], none⟩,
  ⟨none, .store 4 (.t 7) (.t 13), none⟩]
def r14_6 : List IOper := [⟨some 14, .fld 0 (.t 7), none⟩,
  ⟨some 15, .load none (.t 14), none⟩]
def r14_7 : List IOper := [⟨some 26, .bin .eql (.t 15) (.c (.int .i64 0)), none⟩,
  ⟨some 25, .mov (.t 26), none⟩]
def r14_8 : List IOper := [⟨some 27, .fld 1 (.t 7), none⟩,
  ⟨some 28, .load none (.t 27), none⟩,
  ⟨some 29, .buildS 1 1 [(.int .u64 0)] [(0, (.t 28))], none⟩,
  ⟨some 30, .callF 30 [(.t 4), (.t 29)], none⟩]
def r14_9 : List IOper := [⟨some 31, .mov (.t 5), none⟩,
  ⟨some 32, .fld 1 (.t 7), none⟩,
  ⟨some 33, .load none (.t 32), none⟩,
  ⟨some 34, .callF 57 [(.t 33)], none⟩,
  ⟨some 35, .bin .add (.t 31) (.t 34), none⟩,
  ⟨some 5, .mov (.t 35), none⟩]
def r14_10 : List IOper := [⟨some 37, .bin .eql (.t 15) (.c (.int .i64 1)), none⟩,
  ⟨some 36, .mov (.t 37), none⟩]
def r14_11 : List IOper := [⟨some 38, .fld 2 (.t 7), none⟩,
  ⟨some 39, .load none (.t 38), none⟩,
  ⟨some 40, .buildS 1 1 [(.int .i64 0)] [(0, (.t 39))], none⟩,
  ⟨some 41, .callF 40 [(.t 4), (.t 40)], none⟩]
def r14_12 : List IOper := [⟨some 42, .mov (.t 5), none⟩,
  ⟨some 43, .fld 2 (.t 7), none⟩,
  ⟨some 44, .load none (.t 43), none⟩,
  ⟨some 45, .callF 58 [(.t 44)], none⟩,
  ⟨some 46, .bin .add (.t 42) (.t 45), none⟩,
  ⟨some 5, .mov (.t 46), none⟩]
def r14_13 : List IOper := [⟨some 48, .bin .eql (.t 15) (.c (.int .i64 2)), none⟩,
  ⟨some 47, .mov (.t 48), none⟩]
def r14_14 : List IOper := [⟨some 49, .fld 2 (.t 7), none⟩,
  ⟨some 50, .load none (.t 49), none⟩,
  ⟨some 51, .bin .gtr (.t 50) (.c (.int .i64 0)), none⟩,
  ⟨some 52, .buildS 1 1 [(.bool false)] [(0, (.t 51))], none⟩,
  ⟨some 53, .callF 42 [(.t 4), (.t 52)], none⟩]
def r14_15 : List IOper := [⟨some 54, .mov (.t 5), none⟩,
  ⟨some 55, .fld 2 (.t 7), none⟩,
  ⟨some 56, .load none (.t 55), none⟩,
  ⟨some 57, .bin .gtr (.t 56) (.c (.int .i64 0)), none⟩,
  ⟨some 58, .callF 59 [(.t 57)], none⟩,
  ⟨some 59, .bin .add (.t 54) (.t 58), none⟩,
  ⟨some 5, .mov (.t 59), none⟩]
def r14_16 : List IOper := [⟨some 16, .fld 3 (.t 7), none⟩,
  ⟨some 17, .load none (.t 16), none⟩,
  ⟨some 18, .buildS 1 1 [(.str (⟨#[]⟩ : ByteArray))] [(0, (.t 17))], none⟩,
  ⟨some 19, .callF 41 [(.t 4), (.t 18)], none⟩]
def r14_17 : List IOper := [⟨some 20, .mov (.t 5), none⟩,
  ⟨some 21, .fld 3 (.t 7), none⟩,
  ⟨some 22, .load none (.t 21), none⟩,
  ⟨some 23, .callF 60 [(.t 22)], none⟩,
  ⟨some 24, .bin .add (.t 20) (.t 23), none⟩,
  ⟨some 5, .mov (.t 24), none⟩]
def r14_18 : List IOper := [⟨some 60, .bin .add (.t 10) (.c (.int .i64 1)), none⟩,
  ⟨some 10, .mov (.t 60), none⟩]
def r14_19 : List IOper := [⟨some 61, .callF 31 [(.t 4)], none⟩,
  ⟨some 62, .mov (.t 5), none⟩,
  ⟨some 2, .mov (.t 61), none⟩,
  ⟨some 3, .mov (.t 62), none⟩]
def b14 : ICode :=
 (.seq (.reg [(0, false), (1, false)] r14_0)
 (.seq (.reg [(0, false)] r14_1)
 (.seq (.reg [(0, false)] r14_2)
 (.seq (.seq (.reg [(0, false), (1, false), (2, false)] r14_3)
 (.seq (.block 0 (.loop (.seq (.mask [4, 5, 8, 9, 10]) (.seq (.reg [(0, false)] r14_4)
 (.seq (.cond (.t 11) .skip
 (.exit 0))
 (.seq (.seq (.block 1 (.seq (.reg [(0, false), (1, false), (2, false), (3, false)] r14_5)
 (.seq (.reg [(0, false), (1, false)] r14_6)
 (.seq (.block 2 (.seq (.reg [(0, false), (1, false)] r14_7)
 (.seq (.cond (.t 25) (.seq (.reg [(0, false), (1, false), (2, false), (3, false)] r14_8)
 (.reg [(0, false), (1, false), (2, false), (3, false), (4, false), (5, false)] r14_9))
 (.seq (.reg [(0, false), (1, false)] r14_10)
 (.seq (.cond (.t 36) (.seq (.reg [(0, false), (1, false), (2, false), (3, false)] r14_11)
 (.reg [(0, false), (1, false), (2, false), (3, false), (4, false), (5, false)] r14_12))
 (.seq (.reg [(0, false), (1, false)] r14_13)
 (.seq (.cond (.t 47) (.seq (.reg [(0, false), (1, false), (2, false), (3, false), (4, false)] r14_14)
 (.reg [(0, false), (1, false), (2, false), (3, false), (4, false), (5, false), (6, false)] r14_15))
 (.seq (.reg [(0, false), (1, false), (2, false), (3, false)] r14_16)
 (.reg [(0, false), (1, false), (2, false), (3, false), (4, false), (5, false)] r14_17))) (.mask [4, 5, 8, 9, 10])))) (.mask [4, 5, 8, 9, 10])))) (.mask [4, 5, 8, 9, 10])))) (.mask [4, 5, 8, 9, 10]))))) (.mask [4, 5, 8, 9, 10]))
 (.reg [(0, false), (1, false)] r14_18))))))) (.mask [4, 5])))
 (.seq (.reg [(0, false), (1, false), (2, false), (3, false)] r14_19)
 .ret)))))
def f14 : IFunc := { nt := 63, res := [((.t 2), none), ((.t 3), none)], body := b14 }
def ps14 : List Phases := []
def ms14 : List (Option (List Nat)) := [some [4, 5, 8, 9, 10], none, some [4, 5, 8, 9, 10], some [4, 5, 8, 9, 10], some [4, 5, 8, 9, 10], some [4, 5, 8, 9, 10], some [4, 5, 8, 9, 10], some [4, 5]]
-- chatelaine/chatelainelaw01.few
def r15_0 : List IOper := [⟨some 2, .mov (.c .nils), none⟩]
def r15_1 : List IOper := [⟨some 3, .mov (.c .nils), none⟩]
def r15_2 : List IOper := [⟨some 4, .mov (.c (.int .i64 0)), none⟩]
def r15_3 : List IOper := [⟨some 6, .mov (.t 4), none⟩,
  ⟨some 7, .mov (.t 0), none⟩,
  ⟨some 8, .lenL (.t 7), none⟩,
  ⟨some 9, .bin .lss (.t 6) (.t 8), none⟩,
  ⟨some 10, .mov (.t 9), none⟩,
  ⟨some 11, .mov (.t 4), some (10, true)⟩,
  ⟨some 12, .bin .lss (.t 11) (.c (.int .i64 30)), some (10, true)⟩,
  ⟨some 13, .pick (.t 10) (.t 12) (.c (.bool false)), none⟩]
def r15_4 : List IOper := [⟨some 16, .mov (.t 0), none⟩,
  ⟨some 17, .mov (.t 4), none⟩,
  ⟨some 18, .ixS 4 (.t 16) (.t 17), none⟩,
  ⟨some 19, .load (some 4) (.t 18), none⟩,
  ⟨some 5, .alloc [(.int .i64 0), (.int .u64 0), (.int .i64 0), (.str (⟨#[]⟩ : ByteArray))], none⟩,
  ⟨none, .store 4 (.t 5) (.t 19), none⟩]
def r15_5 : List IOper := [⟨some 20, .fld 0 (.t 5), none⟩,
  ⟨some 21, .load none (.t 20), none⟩,
  ⟨some 22, .bin .and (.t 21) (.c (.int .i64 3)), none⟩,
  ⟨some 23, .fld 0 (.t 5), none⟩,
  ⟨none, .store 1 (.t 23) (.t 22), none⟩]
def r15_6 : List IOper := [⟨some 24, .fld 3 (.t 5), none⟩,
  ⟨some 25, .load none (.t 24), none⟩,
  ⟨some 26, .callF 16 [(.t 25), (.c (.int .i64 300))], none⟩,
  ⟨some 27, .fld 3 (.t 5), none⟩,
  ⟨none, .store 1 (.t 27) (.t 26), none⟩]
def r15_7 : List IOper := [⟨some 28, .mov (.t 3), none⟩,
  ⟨some 29, .load (some 4) (.t 5), none⟩,
  ⟨some 30, .buildS 4 1 [(.int .i64 0), (.int .u64 0), (.int .i64 0), (.str (⟨#[]⟩ : ByteArray))] [(0, (.t 29))], none⟩,
  ⟨some 31, .app 4 40 (.t 28) (.t 30), none⟩,
  ⟨some 3, .mov (.t 31), none⟩]
def r15_8 : List IOper := [⟨some 14, .mov (.t 4), none⟩,
  ⟨some 15, .bin .add (.t 14) (.c (.int .i64 1)), none⟩,
  ⟨some 4, .mov (.t 15), none⟩]
def r15_9 : List IOper := [⟨some 32, .mov (.t 3), none⟩,
  ⟨some 2, .mov (.t 32), none⟩]
def b15 : ICode :=
 (.seq (.reg [(0, false)] r15_0)
 (.seq (.reg [(0, false)] r15_1)
 (.seq (.seq (.reg [(0, false)] r15_2)
 (.seq (.block 0 (.loop (.seq (.mask [0, 3, 4]) (.seq (.seq (.reg [(0, false), (1, false), (2, false), (3, false), (4, false), (5, false), (6, false), (7, false)] r15_3)
 (.cond (.t 13) .skip
 (.exit 0)))
 (.seq (.seq (.block 1 (.seq (.reg [(0, false), (1, false), (2, false), (3, false), (4, false), (5, false)] r15_4)
 (.seq (.reg [(0, false), (1, false), (2, false), (3, false), (4, false)] r15_5)
 (.seq (.reg [(0, false), (1, false), (2, false), (3, false), (4, false)] r15_6)
 (.reg [(0, false), (1, false), (2, false), (3, false), (4, false)] r15_7))))) (.mask [0, 3, 4]))
 (.reg [(0, false), (1, false), (2, false)] r15_8)))))) (.mask [3])))
 (.seq (.reg [(0, false), (1, false)] r15_9)
 .ret))))
def f15 : IFunc := { nt := 33, res := [((.t 2), none)], body := b15 }
def ps15 : List Phases := []
def ms15 : List (Option (List Nat)) := [some [0, 3, 4], none, some [0, 3, 4], some [3]]
-- chatelaine/chatelainelaw01.Cut
def r16_0 : List IOper := [⟨some 4, .mov (.c (.str (⟨#[]⟩ : ByteArray))), none⟩]
def r16_1 : List IOper := [⟨some 5, .mov (.t 0), none⟩,
  ⟨some 6, .lenS (.t 5), none⟩,
  ⟨some 7, .mov (.t 1), none⟩,
  ⟨some 8, .bin .gtr (.t 6) (.t 7), none⟩]
def r16_2 : List IOper := [⟨some 9, .mov (.t 0), none⟩,
  ⟨some 10, .mov (.t 1), none⟩,
  ⟨some 11, .slcStr (.t 9) none (some (.t 10)), none⟩,
  ⟨some 4, .mov (.t 11), none⟩]
def r16_3 : List IOper := [⟨some 12, .mov (.t 0), none⟩,
  ⟨some 4, .mov (.t 12), none⟩]
def b16 : ICode :=
 (.seq (.reg [(0, false)] r16_0)
 (.seq (.seq (.reg [(0, false), (1, false), (2, false), (3, false)] r16_1)
 (.cond (.t 8) (.seq (.reg [(0, false), (1, false), (2, false), (3, false)] r16_2)
 .ret)
 .skip))
 (.seq (.reg [(0, false), (1, false)] r16_3)
 .ret)))
def f16 : IFunc := { nt := 13, res := [((.t 4), none)], body := b16 }
def ps16 : List Phases := []
def ms16 : List (Option (List Nat)) := [none]
-- chatelaine/code.Read
def r17_0 : List IOper := [⟨some 2, .mov (.c .nilp), none⟩]
def r17_1 : List IOper := [⟨some 3, .mov (.t 0), none⟩,
  ⟨some 4, .build [(.str (⟨#[]⟩ : ByteArray)), (.int .i64 0)] [(0, 1, (.t 3))], none⟩,
  ⟨some 5, .box 2 (.t 4), none⟩,
  ⟨some 2, .mov (.t 5), none⟩]
def b17 : ICode :=
 (.seq (.reg [(0, false)] r17_0)
 (.seq (.reg [(0, false), (1, false), (2, false), (3, false)] r17_1)
 .ret))
def f17 : IFunc := { nt := 6, res := [((.t 2), none)], body := b17 }
def ps17 : List Phases := []
def ms17 : List (Option (List Nat)) := []
-- chatelaine/chatelaineref01.TakeU
def r18_0 : List IOper := [⟨some 1, .box 2 (.t 0), none⟩,
  ⟨some 2, .alloc [(.str (⟨#[]⟩ : ByteArray)), (.int .i64 0)], none⟩,
  ⟨some 3, .mov (.c (.int .u64 0)), none⟩]
def r18_1 : List IOper := [⟨some 12, .load (some 2) (.t 1), none⟩,
  ⟨some 13, .callF 61 [(.t 12), (.c (.int .i64 1))], none⟩,
  ⟨some 11, .mov (.t 13), none⟩,
  ⟨some 14, .ext (.t 11) 0, none⟩,
  ⟨some 15, .ext (.t 11) 1, none⟩,
  ⟨some 4, .alloc [(.str (⟨#[]⟩ : ByteArray)), (.int .i64 0)], none⟩,
  ⟨none, .store 2 (.t 4) (.t 14), none⟩,
  ⟨some 5, .mov (.t 15), none⟩]
def r18_2 : List IOper := [⟨some 16, .fld 1 (.t 4), none⟩,
  ⟨some 17, .load none (.t 16), none⟩,
  ⟨some 18, .bin .neq (.t 17) (.c (.int .i64 0)), none⟩]
def r18_3 : List IOper := [⟨some 19, .load (some 2) (.t 4), none⟩,
  ⟨none, .store 2 (.t 2) (.t 19), none⟩,
  ⟨some 3, .mov (.c (.int .u64 0)), none⟩]
def r18_4 : List IOper := [⟨some 6, .mov (.c (.int .i64 0)), none⟩]
def r18_5 : List IOper := [⟨some 20, .mov (.t 5), none⟩,
  ⟨some 21, .ixStr (.t 20) (.c (.int .i64 0)), none⟩]
def r18_6 : List IOper := [⟨some 23, .bin .eql (.t 21) (.c (.int .u8 252)), none⟩,
  ⟨some 22, .mov (.t 23), none⟩]
def r18_7 : List IOper := [⟨some 6, .mov (.c (.int .i64 2)), none⟩]
def r18_8 : List IOper := [⟨some 25, .bin .eql (.t 21) (.c (.int .u8 253)), none⟩,
  ⟨some 24, .mov (.t 25), none⟩]
def r18_9 : List IOper := [⟨some 6, .mov (.c (.int .i64 4)), none⟩]
def r18_10 : List IOper := [⟨some 27, .bin .eql (.t 21) (.c (.int .u8 254)), none⟩,
  ⟨some 26, .mov (.t 27), none⟩]
def r18_11 : List IOper := [⟨some 6, .mov (.c (.int .i64 8)), none⟩]
def r18_12 : List IOper := [⟨some 29, .bin .eql (.t 21) (.c (.int .u8 255)), none⟩,
  ⟨some 28, .mov (.t 29), none⟩]
def r18_13 : List IOper := [⟨some 30, .load (some 2) (.t 4), none⟩,
  ⟨some 31, .callF 62 [(.t 30), (.c (.int .i64 4))], none⟩,
  ⟨none, .store 2 (.t 2) (.t 31), none⟩,
  ⟨some 3, .mov (.c (.int .u64 0)), none⟩]
def r18_14 : List IOper := [⟨some 33, .load (some 2) (.t 4), none⟩,
  ⟨some 34, .mov (.t 6), none⟩,
  ⟨some 35, .callF 61 [(.t 33), (.t 34)], none⟩,
  ⟨some 32, .mov (.t 35), none⟩,
  ⟨some 36, .ext (.t 32) 0, none⟩,
  ⟨some 37, .ext (.t 32) 1, none⟩,
  ⟨some 7, .alloc [(.str (⟨#[]⟩ : ByteArray)), (.int .i64 0)], none⟩,
  ⟨none, .store 2 (.t 7) (.t 36), none⟩,
  ⟨some 8, .mov (.t 37), none⟩]
def r18_15 : List IOper := [⟨some 38, .fld 1 (.t 7), none⟩,
  ⟨some 39, .load none (.t 38), none⟩,
  ⟨some 40, .bin .neq (.t 39) (.c (.int .i64 0)), none⟩]
def r18_16 : List IOper := [⟨some 41, .load (some 2) (.t 7), none⟩,
  ⟨none, .store 2 (.t 2) (.t 41), none⟩,
  ⟨some 3, .mov (.c (.int .u64 0)), none⟩]
def r18_17 : List IOper := [⟨some 42, .mov (.t 6), none⟩,
  ⟨some 43, .bin .eql (.t 42) (.c (.int .i64 0)), none⟩]
def r18_18 : List IOper := [⟨some 44, .load (some 2) (.t 7), none⟩,
  ⟨some 45, .mov (.t 5), none⟩,
  ⟨some 46, .ixStr (.t 45) (.c (.int .i64 0)), none⟩,
  ⟨some 47, .conv .u64 (.t 46), none⟩,
  ⟨none, .store 2 (.t 2) (.t 44), none⟩,
  ⟨some 3, .mov (.t 47), none⟩]
def r18_19 : List IOper := [⟨some 9, .mov (.c (.int .u64 0)), none⟩]
def r18_20 : List IOper := [⟨some 10, .mov (.c (.int .i64 0)), none⟩]
def r18_21 : List IOper := [⟨some 48, .mov (.t 10), none⟩,
  ⟨some 49, .mov (.t 6), none⟩,
  ⟨some 50, .bin .lss (.t 48) (.t 49), none⟩]
def r18_22 : List IOper := [⟨some 53, .mov (.t 9), none⟩,
  ⟨some 54, .bin .mul (.c (.int .u64 256)) (.t 53), none⟩,
  ⟨some 55, .mov (.t 8), none⟩,
  ⟨some 56, .mov (.t 10), none⟩,
  ⟨some 57, .ixStr (.t 55) (.t 56), none⟩,
  ⟨some 58, .conv .u64 (.t 57), none⟩,
  ⟨some 59, .bin .add (.t 54) (.t 58), none⟩,
  ⟨some 9, .mov (.t 59), none⟩]
def r18_23 : List IOper := [⟨some 51, .mov (.t 10), none⟩,
  ⟨some 52, .bin .add (.t 51) (.c (.int .i64 1)), none⟩,
  ⟨some 10, .mov (.t 52), none⟩]
def r18_24 : List IOper := [⟨some 60, .mov (.t 9), none⟩,
  ⟨some 61, .callF 57 [(.t 60)], none⟩,
  ⟨some 62, .mov (.t 5), none⟩,
  ⟨some 63, .mov (.t 8), none⟩,
  ⟨some 64, .bin .add (.t 62) (.t 63), none⟩,
  ⟨some 65, .bin .neq (.t 61) (.t 64), none⟩]
def r18_25 : List IOper := [⟨some 66, .load (some 2) (.t 7), none⟩,
  ⟨some 67, .callF 62 [(.t 66), (.c (.int .i64 4))], none⟩,
  ⟨none, .store 2 (.t 2) (.t 67), none⟩,
  ⟨some 3, .mov (.c (.int .u64 0)), none⟩]
def r18_26 : List IOper := [⟨some 68, .load (some 2) (.t 7), none⟩,
  ⟨some 69, .mov (.t 9), none⟩,
  ⟨none, .store 2 (.t 2) (.t 68), none⟩,
  ⟨some 3, .mov (.t 69), none⟩]
def b18 : ICode :=
 (.seq (.reg [(0, false), (1, false), (2, false)] r18_0)
 (.seq (.reg [(0, false), (1, false), (2, false), (3, false), (4, false), (5, false), (6, false), (7, false)] r18_1)
 (.seq (.seq (.reg [(0, false), (1, false), (2, false)] r18_2)
 (.cond (.t 18) (.seq (.reg [(0, false), (1, false), (2, false)] r18_3)
 .ret)
 .skip))
 (.seq (.reg [(0, false)] r18_4)
 (.seq (.seq (.reg [(0, false), (1, false)] r18_5)
 (.seq (.block 0 (.seq (.reg [(0, false), (1, false)] r18_6)
 (.seq (.cond (.t 22) (.reg [(0, false)] r18_7)
 (.seq (.reg [(0, false), (1, false)] r18_8)
 (.seq (.cond (.t 24) (.reg [(0, false)] r18_9)
 (.seq (.reg [(0, false), (1, false)] r18_10)
 (.seq (.cond (.t 26) (.reg [(0, false)] r18_11)
 (.seq (.reg [(0, false), (1, false)] r18_12)
 (.cond (.t 28) (.seq (.reg [(0, false), (1, false), (2, false), (3, false)] r18_13)
 .ret)
 .skip))) (.mask [2, 4, 5, 6])))) (.mask [2, 4, 5, 6])))) (.mask [2, 4, 5, 6])))) (.mask [2, 4, 5, 6])))
 (.seq (.reg [(0, false), (1, false), (2, false), (3, false), (4, false), (5, false), (6, false), (7, false), (8, false)] r18_14)
 (.seq (.seq (.reg [(0, false), (1, false), (2, false)] r18_15)
 (.cond (.t 40) (.seq (.reg [(0, false), (1, false), (2, false)] r18_16)
 .ret)
 .skip))
 (.seq (.seq (.reg [(0, false), (1, false)] r18_17)
 (.cond (.t 43) (.seq (.reg [(0, false), (1, false), (2, false), (3, false), (4, false), (5, false)] r18_18)
 .ret)
 .skip))
 (.seq (.reg [(0, false)] r18_19)
 (.seq (.seq (.reg [(0, false)] r18_20)
 (.seq (.block 1 (.loop (.seq (.mask [2, 5, 6, 7, 8, 9, 10]) (.seq (.seq (.reg [(0, false), (1, false), (2, false)] r18_21)
 (.cond (.t 50) .skip
 (.exit 1)))
 (.seq (.seq (.block 2 (.reg [(0, false), (1, false), (2, false), (3, false), (4, false), (5, false), (6, false), (7, false)] r18_22)) (.mask [2, 5, 6, 7, 8, 9, 10]))
 (.reg [(0, false), (1, false), (2, false)] r18_23)))))) (.mask [2, 5, 7, 8, 9])))
 (.seq (.seq (.reg [(0, false), (1, false), (2, false), (3, false), (4, false), (5, false)] r18_24)
 (.cond (.t 65) (.seq (.reg [(0, false), (1, false), (2, false), (3, false)] r18_25)
 .ret)
 .skip))
 (.seq (.reg [(0, false), (1, false), (2, false), (3, false)] r18_26)
 .ret))))))))))))
def f18 : IFunc := { nt := 70, res := [((.t 2), some (some 2)), ((.t 3), none)], body := b18 }
def ps18 : List Phases := [⟨[([(0, false), (1, false), (2, false), (3, false)], 4)], [(5, false)]⟩]
def ms18 : List (Option (List Nat)) := [none, none, some [2, 4, 5, 6], some [2, 4, 5, 6], some [2, 4, 5, 6], some [2, 4, 5, 6], none, none, some [2, 5, 6, 7, 8, 9, 10], none, some [2, 5, 6, 7, 8, 9, 10], some [2, 5, 7, 8, 9], none]
-- (*chatelaine/code.Reader).U
def r19_0 : List IOper := [⟨some 2, .mov (.c (.int .u64 0)), none⟩]
def r19_1 : List IOper := [⟨some 10, .mov (.t 0), none⟩,
  ⟨some 11, .callF 63 [(.t 10), (.c (.int .i64 1))], none⟩,
  ⟨some 3, .mov (.t 11), none⟩]
def r19_2 : List IOper := [⟨some 12, .mov (.t 3), none⟩,
  ⟨some 13, .bin .eql (.t 12) (.c (.str (⟨#[]⟩ : ByteArray))), none⟩]
def r19_3 : List IOper := [⟨some 2, .mov (.c (.int .u64 0)), none⟩]
def r19_4 : List IOper := [⟨some 14, .mov (.t 3), none⟩,
  ⟨some 15, .ixStr (.t 14) (.c (.int .i64 0)), none⟩,
  ⟨some 16, .bin .lss (.t 15) (.c (.int .u8 252)), none⟩]
def r19_5 : List IOper := [⟨some 17, .mov (.t 3), none⟩,
  ⟨some 18, .ixStr (.t 17) (.c (.int .i64 0)), none⟩,
  ⟨some 19, .conv .u64 (.t 18), none⟩,
  ⟨some 2, .mov (.t 19), none⟩]
def r19_6 : List IOper := [⟨some 4, .mov (.c (.int .i64 8)), none⟩]
def r19_7 : List IOper := [⟨some 20, .mov (.t 3), none⟩,
  ⟨some 21, .ixStr (.t 20) (.c (.int .i64 0)), none⟩]
def r19_8 : List IOper := [⟨some 23, .bin .eql (.t 21) (.c (.int .u8 252)), none⟩,
  ⟨some 22, .mov (.t 23), none⟩]
def r19_9 : List IOper := [⟨some 4, .mov (.c (.int .i64 2)), none⟩]
def r19_10 : List IOper := [⟨some 25, .bin .eql (.t 21) (.c (.int .u8 253)), none⟩,
  ⟨some 24, .mov (.t 25), none⟩]
def r19_11 : List IOper := [⟨some 4, .mov (.c (.int .i64 4)), none⟩]
def r19_12 : List IOper := [⟨some 27, .bin .eql (.t 21) (.c (.int .u8 255)), none⟩,
  ⟨some 26, .mov (.t 27), none⟩]
def r19_13 : List IOper := [⟨some 28, .mov (.t 0), none⟩,
  ⟨some 29, .callF 32 [(.t 28), (.c (.int .i64 4))], none⟩]
def r19_14 : List IOper := [⟨some 5, .mov (.c (.int .u64 0)), none⟩]
def r19_15 : List IOper := [⟨some 30, .mov (.t 0), none⟩,
  ⟨some 31, .mov (.t 4), none⟩,
  ⟨some 32, .callF 63 [(.t 30), (.t 31)], none⟩,
  ⟨some 33, .s2b (.t 32), none⟩,
  ⟨some 34, .lenL (.t 33), none⟩,
  ⟨some 35, .mov (.c (.int .i64 0)), none⟩]
def r19_16 : List IOper := [⟨some 36, .bin .lss (.t 35) (.t 34), none⟩]
def r19_17 : List IOper := [⟨some 37, .ixS 1 (.t 33) (.t 35), none⟩,
  ⟨some 38, .load none (.t 37), none⟩,
  ⟨some 7, .mov (.t 38), none⟩]
def r19_18 : List IOper := [⟨some 39, .mov (.t 5), none⟩,
  ⟨some 40, .bin .shl (.t 39) (.c (.int .u64 8)), none⟩,
  ⟨some 41, .mov (.t 7), none⟩,
  ⟨some 42, .conv .u64 (.t 41), none⟩,
  ⟨some 43, .bin .or (.t 40) (.t 42), none⟩,
  ⟨some 5, .mov (.t 43), none⟩]
def r19_19 : List IOper := [⟨some 44, .bin .add (.t 35) (.c (.int .i64 1)), none⟩,
  ⟨some 35, .mov (.t 44), none⟩]
def r19_20 : List IOper := [⟨some 46, .mov (.t 5), none⟩,
  ⟨some 47, .callF 64 [(.t 46)], none⟩,
  ⟨some 45, .mov (.t 47), none⟩,
  ⟨some 48, .ext (.t 45) 0, none⟩,
  ⟨some 49, .ext (.t 45) 1, none⟩,
  ⟨some 8, .mov (.t 48), none⟩,
  ⟨some 9, .mov (.t 49), none⟩]
def r19_21 : List IOper := [⟨some 50, .mov (.t 8), none⟩,
  ⟨some 51, .mov (.t 3), none⟩,
  ⟨some 52, .ixStr (.t 51) (.c (.int .i64 0)), none⟩,
  ⟨some 53, .bin .neq (.t 50) (.t 52), none⟩]
def r19_22 : List IOper := [⟨some 54, .mov (.t 0), none⟩,
  ⟨some 55, .callF 32 [(.t 54), (.c (.int .i64 4))], none⟩]
def r19_23 : List IOper := [⟨some 56, .mov (.t 0), none⟩,
  ⟨some 57, .nilck (.t 56), none⟩,
  ⟨some 58, .fld 1 (.t 57), none⟩,
  ⟨some 59, .load none (.t 58), none⟩,
  ⟨some 60, .bin .neq (.t 59) (.c (.int .i64 0)), none⟩]
def r19_24 : List IOper := [⟨some 2, .mov (.c (.int .u64 0)), none⟩]
def r19_25 : List IOper := [⟨some 61, .mov (.t 5), none⟩,
  ⟨some 2, .mov (.t 61), none⟩]
def b19 : ICode :=
 (.seq (.reg [(0, false)] r19_0)
 (.seq (.reg [(0, false), (1, false), (2, false)] r19_1)
 (.seq (.seq (.reg [(0, false), (1, false)] r19_2)
 (.cond (.t 13) (.seq (.reg [(0, false)] r19_3)
 .ret)
 .skip))
 (.seq (.seq (.reg [(0, false), (1, false), (2, false)] r19_4)
 (.cond (.t 16) (.seq (.reg [(0, false), (1, false), (2, false), (3, false)] r19_5)
 .ret)
 .skip))
 (.seq (.reg [(0, false)] r19_6)
 (.seq (.seq (.reg [(0, false), (1, false)] r19_7)
 (.seq (.block 0 (.seq (.reg [(0, false), (1, false)] r19_8)
 (.seq (.cond (.t 22) (.reg [(0, false)] r19_9)
 (.seq (.reg [(0, false), (1, false)] r19_10)
 (.seq (.cond (.t 24) (.reg [(0, false)] r19_11)
 (.seq (.reg [(0, false), (1, false)] r19_12)
 (.seq (.cond (.t 26) (.reg [(0, false), (1, false)] r19_13)
 .skip) (.mask [0, 3, 4])))) (.mask [0, 3, 4])))) (.mask [0, 3, 4])))) (.mask [0, 3, 4])))
 (.seq (.reg [(0, false)] r19_14)
 (.seq (.seq (.reg [(0, false), (1, false), (2, false), (3, false), (4, false), (5, false)] r19_15)
 (.seq (.block 1 (.loop (.seq (.mask [0, 3, 5, 33, 34, 35]) (.seq (.reg [(0, false)] r19_16)
 (.seq (.cond (.t 36) .skip
 (.exit 1))
 (.seq (.seq (.block 2 (.seq (.reg [(0, false), (1, false), (2, false)] r19_17)
 (.reg [(0, false), (1, false), (2, false), (3, false), (4, false), (5, false)] r19_18))) (.mask [0, 3, 5, 33, 34, 35]))
 (.reg [(0, false), (1, false)] r19_19))))))) (.mask [0, 3, 5])))
 (.seq (.seq (.reg [(0, false), (1, false), (2, false), (3, false), (4, false), (5, false), (6, false)] r19_20)
 (.seq (.reg [(0, false), (1, false), (2, false), (3, false)] r19_21)
 (.seq (.cond (.t 53) (.reg [(0, false), (1, false)] r19_22)
 .skip) (.mask [0, 5]))))
 (.seq (.seq (.reg [(0, false), (1, false), (2, false), (3, false), (4, false)] r19_23)
 (.cond (.t 60) (.seq (.reg [(0, false)] r19_24)
 .ret)
 .skip))
 (.seq (.reg [(0, false), (1, false)] r19_25)
 .ret)))))))))))
def f19 : IFunc := { nt := 62, res := [((.t 2), none)], body := b19 }
def ps19 : List Phases := []
def ms19 : List (Option (List Nat)) := [none, none, some [0, 3, 4], some [0, 3, 4], some [0, 3, 4], some [0, 3, 4], some [0, 3, 5, 33, 34, 35], none, some [0, 3, 5, 33, 34, 35], some [0, 3, 5], some [0, 5], none]
-- chatelaine/chatelaineref01.TakeN
def r20_0 : List IOper := [⟨some 2, .box 2 (.t 0), none⟩,
  ⟨some 4, .alloc [(.str (⟨#[]⟩ : ByteArray)), (.int .i64 0)], none⟩,
  ⟨some 5, .mov (.c (.int .i64 0)), none⟩]
def r20_1 : List IOper := [⟨some 9, .load (some 2) (.t 2), none⟩,
  ⟨some 10, .callF 18 [(.t 9)], none⟩,
  ⟨some 8, .mov (.t 10), none⟩,
  ⟨some 11, .ext (.t 8) 0, none⟩,
  ⟨some 12, .ext (.t 8) 1, none⟩,
  ⟨some 6, .alloc [(.str (⟨#[]⟩ : ByteArray)), (.int .i64 0)], none⟩,
  ⟨none, .store 2 (.t 6) (.t 11), none⟩,
  ⟨some 7, .mov (.t 12), none⟩]
def r20_2 : List IOper := [⟨some 13, .mov (.t 1), none⟩,
  ⟨some 14, .bin .lss (.t 13) (.c (.int .i64 0)), none⟩]
def r20_3 : List IOper := [⟨some 1, .mov (.c (.int .i64 0)), none⟩]
def r20_4 : List IOper := [⟨some 15, .fld 1 (.t 6), none⟩,
  ⟨some 16, .load none (.t 15), none⟩,
  ⟨some 17, .bin .eql (.t 16) (.c (.int .i64 0)), none⟩,
  ⟨some 18, .mov (.t 17), none⟩,
  ⟨some 19, .mov (.t 7), some (18, true)⟩,
  ⟨some 20, .mov (.t 1), some (18, true)⟩,
  ⟨some 21, .conv .u64 (.t 20), some (18, true)⟩,
  ⟨some 22, .bin .gtr (.t 19) (.t 21), some (18, true)⟩,
  ⟨some 23, .pick (.t 18) (.t 22) (.c (.bool false)), none⟩]
def r20_5 : List IOper := [⟨some 24, .fld 1 (.t 6), none⟩,
  ⟨none, .store 1 (.t 24) (.c (.int .i64 6)), none⟩]
def r20_6 : List IOper := [⟨some 25, .fld 1 (.t 6), none⟩,
  ⟨some 26, .load none (.t 25), none⟩,
  ⟨some 27, .bin .neq (.t 26) (.c (.int .i64 0)), none⟩]
def r20_7 : List IOper := [⟨some 28, .load (some 2) (.t 6), none⟩,
  ⟨none, .store 2 (.t 4) (.t 28), none⟩,
  ⟨some 5, .mov (.c (.int .i64 0)), none⟩]
def r20_8 : List IOper := [⟨some 29, .load (some 2) (.t 6), none⟩,
  ⟨some 30, .mov (.t 7), none⟩,
  ⟨some 31, .conv .i64 (.t 30), none⟩,
  ⟨none, .store 2 (.t 4) (.t 29), none⟩,
  ⟨some 5, .mov (.t 31), none⟩]
def b20 : ICode :=
 (.seq (.reg [(0, false), (1, false), (2, false)] r20_0)
 (.seq (.reg [(0, false), (1, false), (2, false), (3, false), (4, false), (5, false), (6, false), (7, false)] r20_1)
 (.seq (.seq (.reg [(0, false), (1, false)] r20_2)
 (.seq (.cond (.t 14) (.reg [(0, false)] r20_3)
 .skip) (.mask [1, 4, 6, 7])))
 (.seq (.seq (.reg [(0, false), (1, false), (2, false), (3, false), (4, false), (5, false), (6, false), (7, false), (8, false)] r20_4)
 (.seq (.cond (.t 23) (.reg [(0, false), (1, false)] r20_5)
 .skip) (.mask [4, 6, 7])))
 (.seq (.seq (.reg [(0, false), (1, false), (2, false)] r20_6)
 (.cond (.t 27) (.seq (.reg [(0, false), (1, false), (2, false)] r20_7)
 .ret)
 .skip))
 (.seq (.reg [(0, false), (1, false), (2, false), (3, false), (4, false)] r20_8)
 .ret))))))
def f20 : IFunc := { nt := 32, res := [((.t 4), some (some 2)), ((.t 5), none)], body := b20 }
def ps20 : List Phases := []
def ms20 : List (Option (List Nat)) := [some [1, 4, 6, 7], some [4, 6, 7], none]
-- (*chatelaine/code.Reader).N
def r21_0 : List IOper := [⟨some 4, .mov (.c (.int .i64 0)), none⟩]
def r21_1 : List IOper := [⟨some 6, .mov (.t 0), none⟩,
  ⟨some 7, .callF 19 [(.t 6)], none⟩,
  ⟨some 5, .mov (.t 7), none⟩]
def r21_2 : List IOper := [⟨some 8, .mov (.t 5), none⟩,
  ⟨some 9, .mov (.t 1), none⟩,
  ⟨some 10, .maxi [(.t 9), (.c (.int .i64 0))], none⟩,
  ⟨some 11, .conv .u64 (.t 10), none⟩,
  ⟨some 12, .bin .gtr (.t 8) (.t 11), none⟩]
def r21_3 : List IOper := [⟨some 13, .mov (.t 0), none⟩,
  ⟨some 14, .callF 32 [(.t 13), (.c (.int .i64 6))], none⟩]
def r21_4 : List IOper := [⟨some 4, .mov (.c (.int .i64 0)), none⟩]
def r21_5 : List IOper := [⟨some 15, .mov (.t 5), none⟩,
  ⟨some 16, .conv .i64 (.t 15), none⟩,
  ⟨some 4, .mov (.t 16), none⟩]
def b21 : ICode :=
 (.seq (.reg [(0, false)] r21_0)
 (.seq (.reg [(0, false), (1, false), (2, false)] r21_1)
 (.seq (.seq (.reg [(0, false), (1, false), (2, false), (3, false), (4, false)] r21_2)
 (.cond (.t 12) (.seq (.reg [(0, false), (1, false)] r21_3)
 (.seq (.reg [(0, false)] r21_4)
 .ret))
 .skip))
 (.seq (.reg [(0, false), (1, false), (2, false)] r21_5)
 .ret))))
def f21 : IFunc := { nt := 17, res := [((.t 4), none)], body := b21 }
def ps21 : List Phases := []
def ms21 : List (Option (List Nat)) := [none]
-- chatelaine/chatelaineref01.TakeB
def r22_0 : List IOper := [⟨some 1, .box 2 (.t 0), none⟩,
  ⟨some 2, .alloc [(.str (⟨#[]⟩ : ByteArray)), (.int .i64 0)], none⟩,
  ⟨some 3, .mov (.c (.bool false)), none⟩]
def r22_1 : List IOper := [⟨some 7, .load (some 2) (.t 1), none⟩,
  ⟨some 8, .callF 61 [(.t 7), (.c (.int .i64 1))], none⟩,
  ⟨some 6, .mov (.t 8), none⟩,
  ⟨some 9, .ext (.t 6) 0, none⟩,
  ⟨some 10, .ext (.t 6) 1, none⟩,
  ⟨some 4, .alloc [(.str (⟨#[]⟩ : ByteArray)), (.int .i64 0)], none⟩,
  ⟨none, .store 2 (.t 4) (.t 9), none⟩,
  ⟨some 5, .mov (.t 10), none⟩]
def r22_2 : List IOper := [⟨some 11, .fld 1 (.t 4), none⟩,
  ⟨some 12, .load none (.t 11), none⟩,
  ⟨some 13, .bin .eql (.t 12) (.c (.int .i64 0)), none⟩,
  ⟨some 14, .mov (.t 13), none⟩,
  ⟨some 15, .mov (.t 5), some (14, true)⟩,
  ⟨some 16, .ixStr (.t 15) (.c (.int .i64 0)), some (14, true)⟩,
  ⟨some 17, .bin .gtr (.t 16) (.c (.int .u8 1)), some (14, true)⟩,
  ⟨some 18, .pick (.t 14) (.t 17) (.c (.bool false)), none⟩]
def r22_3 : List IOper := [⟨some 19, .fld 1 (.t 4), none⟩,
  ⟨none, .store 1 (.t 19) (.c (.int .i64 4)), none⟩]
def r22_4 : List IOper := [⟨some 20, .load (some 2) (.t 4), none⟩,
  ⟨some 21, .fld 1 (.t 4), none⟩,
  ⟨some 22, .load none (.t 21), none⟩,
  ⟨some 23, .bin .eql (.t 22) (.c (.int .i64 0)), none⟩,
  ⟨some 24, .mov (.t 23), none⟩,
  ⟨some 25, .mov (.t 5), some (24, true)⟩,
  ⟨some 26, .ixStr (.t 25) (.c (.int .i64 0)), some (24, true)⟩,
  ⟨some 27, .bin .eql (.t 26) (.c (.int .u8 1)), some (24, true)⟩,
  ⟨some 28, .pick (.t 24) (.t 27) (.c (.bool false)), none⟩,
  ⟨none, .store 2 (.t 2) (.t 20), none⟩,
  ⟨some 3, .mov (.t 28), none⟩]
def b22 : ICode :=
 (.seq (.reg [(0, false), (1, false), (2, false)] r22_0)
 (.seq (.reg [(0, false), (1, false), (2, false), (3, false), (4, false), (5, false), (6, false), (7, false)] r22_1)
 (.seq (.seq (.reg [(0, false), (1, false), (2, false), (3, false), (4, false), (5, false), (6, false), (7, false)] r22_2)
 (.seq (.cond (.t 18) (.reg [(0, false), (1, false)] r22_3)
 .skip) (.mask [2, 4, 5])))
 (.seq (.reg [(0, false), (1, false), (2, false), (3, false), (4, false), (5, false), (6, false), (7, false), (8, false), (9, false), (10, false)] r22_4)
 .ret))))
def f22 : IFunc := { nt := 29, res := [((.t 2), some (some 2)), ((.t 3), none)], body := b22 }
def ps22 : List Phases := [⟨[([(0, false), (1, false), (2, false), (3, false), (4, false), (5, false), (6, false), (7, false), (8, false)], 9)], [(10, false)]⟩]
def ms22 : List (Option (List Nat)) := [some [2, 4, 5]]
-- (*chatelaine/code.Reader).B
def r23_0 : List IOper := [⟨some 2, .mov (.c (.bool false)), none⟩]
def r23_1 : List IOper := [⟨some 4, .mov (.t 0), none⟩,
  ⟨some 5, .callF 63 [(.t 4), (.c (.int .i64 1))], none⟩,
  ⟨some 3, .mov (.t 5), none⟩]
def r23_2 : List IOper := [⟨some 6, .mov (.t 3), none⟩,
  ⟨some 7, .bin .neq (.t 6) (.c (.str (⟨#[]⟩ : ByteArray))), none⟩,
  ⟨some 8, .mov (.t 7), none⟩,
  ⟨some 9, .mov (.t 3), some (8, true)⟩,
  ⟨some 10, .ixStr (.t 9) (.c (.int .i64 0)), some (8, true)⟩,
  ⟨some 11, .bin .gtr (.t 10) (.c (.int .u8 1)), some (8, true)⟩,
  ⟨some 12, .pick (.t 8) (.t 11) (.c (.bool false)), none⟩]
def r23_3 : List IOper := [⟨some 13, .mov (.t 0), none⟩,
  ⟨some 14, .callF 32 [(.t 13), (.c (.int .i64 4))], none⟩]
def r23_4 : List IOper := [⟨some 15, .mov (.t 3), none⟩,
  ⟨some 16, .bin .eql (.t 15) (.c (.str (⟨#[1]⟩ : ByteArray))), none⟩,
  ⟨some 2, .mov (.t 16), none⟩]
def b23 : ICode :=
 (.seq (.reg [(0, false)] r23_0)
 (.seq (.reg [(0, false), (1, false), (2, false)] r23_1)
 (.seq (.seq (.reg [(0, false), (1, false), (2, false), (3, false), (4, false), (5, false), (6, false)] r23_2)
 (.seq (.cond (.t 12) (.reg [(0, false), (1, false)] r23_3)
 .skip) (.mask [3])))
 (.seq (.reg [(0, false), (1, false), (2, false)] r23_4)
 .ret))))
def f23 : IFunc := { nt := 17, res := [((.t 2), none)], body := b23 }
def ps23 : List Phases := []
def ms23 : List (Option (List Nat)) := [some [3]]
-- chatelaine/chatelaineref01.TakeS
def r24_0 : List IOper := [⟨some 2, .box 2 (.t 0), none⟩,
  ⟨some 4, .alloc [(.str (⟨#[]⟩ : ByteArray)), (.int .i64 0)], none⟩,
  ⟨some 5, .mov (.c (.str (⟨#[]⟩ : ByteArray))), none⟩]
def r24_1 : List IOper := [⟨some 9, .load (some 2) (.t 2), none⟩,
  ⟨some 10, .mov (.t 1), none⟩,
  ⟨some 11, .callF 20 [(.t 9), (.t 10)], none⟩,
  ⟨some 8, .mov (.t 11), none⟩,
  ⟨some 12, .ext (.t 8) 0, none⟩,
  ⟨some 13, .ext (.t 8) 1, none⟩,
  ⟨some 6, .alloc [(.str (⟨#[]⟩ : ByteArray)), (.int .i64 0)], none⟩,
  ⟨none, .store 2 (.t 6) (.t 12), none⟩,
  ⟨some 7, .mov (.t 13), none⟩]
def r24_2 : List IOper := [⟨some 14, .load (some 2) (.t 6), none⟩,
  ⟨some 15, .mov (.t 7), none⟩,
  ⟨some 16, .callF 61 [(.t 14), (.t 15)], none⟩,
  ⟨some 17, .ext (.t 16) 0, none⟩,
  ⟨some 18, .ext (.t 16) 1, none⟩,
  ⟨none, .store 2 (.t 4) (.t 17), none⟩,
  ⟨some 5, .mov (.t 18), none⟩]
def b24 : ICode :=
 (.seq (.reg [(0, false), (1, false), (2, false)] r24_0)
 (.seq (.reg [(0, false), (1, false), (2, false), (3, false), (4, false), (5, false), (6, false), (7, false), (8, false)] r24_1)
 (.seq (.reg [(0, false), (1, false), (2, false), (3, false), (4, false), (5, false), (6, false)] r24_2)
 .ret)))
def f24 : IFunc := { nt := 19, res := [((.t 4), some (some 2)), ((.t 5), none)], body := b24 }
def ps24 : List Phases := []
def ms24 : List (Option (List Nat)) := []
-- (*chatelaine/code.Reader).S
def r25_0 : List IOper := [⟨some 4, .mov (.c (.str (⟨#[]⟩ : ByteArray))), none⟩]
def r25_1 : List IOper := [⟨some 5, .mov (.t 0), none⟩,
  ⟨some 6, .mov (.t 0), none⟩,
  ⟨some 7, .mov (.t 1), none⟩,
  ⟨some 8, .callF 21 [(.t 6), (.t 7)], none⟩,
  ⟨some 9, .callF 63 [(.t 5), (.t 8)], none⟩,
  ⟨some 4, .mov (.t 9), none⟩]
def b25 : ICode :=
 (.seq (.reg [(0, false)] r25_0)
 (.seq (.reg [(0, false), (1, false), (2, false), (3, false), (4, false), (5, false)] r25_1)
 .ret))
def f25 : IFunc := { nt := 10, res := [((.t 4), none)], body := b25 }
def ps25 : List Phases := []
def ms25 : List (Option (List Nat)) := []
-- (*chatelaine/code.Reader).Err
def r26_0 : List IOper := [⟨some 2, .mov (.c (.int .i64 0)), none⟩]
def r26_1 : List IOper := [⟨some 3, .mov (.t 0), none⟩,
  ⟨some 4, .nilck (.t 3), none⟩,
  ⟨some 5, .fld 1 (.t 4), none⟩,
  ⟨some 6, .load none (.t 5), none⟩,
  ⟨some 2, .mov (.t 6), none⟩]
def b26 : ICode :=
 (.seq (.reg [(0, false)] r26_0)
 (.seq (.reg [(0, false), (1, false), (2, false), (3, false), (4, false)] r26_1)
 .ret))
def f26 : IFunc := { nt := 7, res := [((.t 2), none)], body := b26 }
def ps26 : List Phases := []
def ms26 : List (Option (List Nat)) := []
-- (*chatelaine/code.Reader).Left
def r27_0 : List IOper := [⟨some 2, .mov (.c (.int .i64 0)), none⟩]
def r27_1 : List IOper := [⟨some 3, .mov (.t 0), none⟩,
  ⟨some 4, .nilck (.t 3), none⟩,
  ⟨some 5, .fld 0 (.t 4), none⟩,
  ⟨some 6, .load none (.t 5), none⟩,
  ⟨some 7, .lenS (.t 6), none⟩,
  ⟨some 2, .mov (.t 7), none⟩]
def b27 : ICode :=
 (.seq (.reg [(0, false)] r27_0)
 (.seq (.reg [(0, false), (1, false), (2, false), (3, false), (4, false), (5, false)] r27_1)
 .ret))
def f27 : IFunc := { nt := 8, res := [((.t 2), none)], body := b27 }
def ps27 : List Phases := []
def ms27 : List (Option (List Nat)) := []
-- chatelaine/chatelaineref01.Done
def r28_0 : List IOper := [⟨some 1, .box 2 (.t 0), none⟩,
  ⟨some 2, .alloc [(.str (⟨#[]⟩ : ByteArray)), (.int .i64 0)], none⟩]
def r28_1 : List IOper := [⟨some 3, .fld 0 (.t 1), none⟩,
  ⟨some 4, .load none (.t 3), none⟩,
  ⟨some 5, .bin .neq (.t 4) (.c (.str (⟨#[]⟩ : ByteArray))), none⟩]
def r28_2 : List IOper := [⟨some 6, .load (some 2) (.t 1), none⟩,
  ⟨some 7, .callF 62 [(.t 6), (.c (.int .i64 4))], none⟩,
  ⟨none, .store 2 (.t 2) (.t 7), none⟩]
def r28_3 : List IOper := [⟨some 8, .load (some 2) (.t 1), none⟩,
  ⟨none, .store 2 (.t 2) (.t 8), none⟩]
def b28 : ICode :=
 (.seq (.reg [(0, false), (1, false)] r28_0)
 (.seq (.seq (.reg [(0, false), (1, false), (2, false)] r28_1)
 (.cond (.t 5) (.seq (.reg [(0, false), (1, false), (2, false)] r28_2)
 .ret)
 .skip))
 (.seq (.reg [(0, false), (1, false)] r28_3)
 .ret)))
def f28 : IFunc := { nt := 9, res := [((.t 2), some (some 2))], body := b28 }
def ps28 : List Phases := []
def ms28 : List (Option (List Nat)) := [none]
-- (*chatelaine/code.Reader).Done
def r29_0 : List IOper := [⟨some 2, .mov (.c (.int .i64 0)), none⟩]
def r29_1 : List IOper := [⟨some 3, .mov (.t 0), none⟩,
  ⟨some 4, .nilck (.t 3), none⟩,
  ⟨some 5, .fld 0 (.t 4), none⟩,
  ⟨some 6, .load none (.t 5), none⟩,
  ⟨some 7, .bin .neq (.t 6) (.c (.str (⟨#[]⟩ : ByteArray))), none⟩]
def r29_2 : List IOper := [⟨some 8, .mov (.t 0), none⟩,
  ⟨some 9, .callF 32 [(.t 8), (.c (.int .i64 4))], none⟩]
def r29_3 : List IOper := [⟨some 10, .mov (.t 0), none⟩,
  ⟨some 11, .nilck (.t 10), none⟩,
  ⟨some 12, .fld 1 (.t 11), none⟩,
  ⟨some 13, .load none (.t 12), none⟩,
  ⟨some 2, .mov (.t 13), none⟩]
def b29 : ICode :=
 (.seq (.reg [(0, false)] r29_0)
 (.seq (.seq (.reg [(0, false), (1, false), (2, false), (3, false), (4, false)] r29_1)
 (.seq (.cond (.t 7) (.reg [(0, false), (1, false)] r29_2)
 .skip) (.mask [0])))
 (.seq (.reg [(0, false), (1, false), (2, false), (3, false), (4, false)] r29_3)
 .ret)))
def f29 : IFunc := { nt := 14, res := [((.t 2), none)], body := b29 }
def ps29 : List Phases := []
def ms29 : List (Option (List Nat)) := [some [0]]
-- (*chatelaine/code.Writer).U
def r30_0 : List IOper := [⟨some 4, .mov (.c .nilp), none⟩]
def r30_1 : List IOper := [⟨some 9, .mov (.t 1), none⟩,
  ⟨some 10, .lenL (.t 9), none⟩,
  ⟨some 11, .mov (.c (.int .i64 0)), none⟩]
def r30_2 : List IOper := [⟨some 12, .bin .lss (.t 11) (.t 10), none⟩]
def r30_3 : List IOper := [⟨some 13, .ixS 1 (.t 9) (.t 11), none⟩,
  ⟨some 14, .load none (.t 13), none⟩,
  ⟨some 6, .mov (.t 14), none⟩]
def r30_4 : List IOper := [⟨some 16, .mov (.t 6), none⟩,
  ⟨some 17, .callF 64 [(.t 16)], none⟩,
  ⟨some 15, .mov (.t 17), none⟩,
  ⟨some 18, .ext (.t 15) 0, none⟩,
  ⟨some 19, .ext (.t 15) 1, none⟩,
  ⟨some 7, .mov (.t 18), none⟩,
  ⟨some 8, .mov (.t 19), none⟩]
def r30_5 : List IOper := [⟨some 20, .mov (.t 0), none⟩,
  ⟨some 21, .mov (.t 0), none⟩,
  ⟨some 22, .nilck (.t 21), none⟩,
  ⟨some 23, .fld 0 (.t 22), none⟩,
  ⟨some 24, .load none (.t 23), none⟩,
  ⟨some 25, .mov (.t 7), none⟩,
  ⟨some 26, .buildS 1 1 [(.int .u8 0)] [(0, (.t 25))], none⟩,
  ⟨some 27, .app 1 1 (.t 24) (.t 26), none⟩,
  ⟨some 28, .nilck (.t 20), none⟩,
  ⟨some 29, .fld 0 (.t 28), none⟩,
  ⟨none, .store 1 (.t 29) (.t 27), none⟩]
def r30_6 : List IOper := [⟨some 30, .mov (.t 0), none⟩,
  ⟨some 31, .mov (.t 6), none⟩,
  ⟨some 32, .mov (.t 8), none⟩,
  ⟨some 33, .callF 65 [(.t 30), (.t 31), (.t 32)], none⟩]
def r30_7 : List IOper := [⟨some 34, .bin .add (.t 11) (.c (.int .i64 1)), none⟩,
  ⟨some 11, .mov (.t 34), none⟩]
def r30_8 : List IOper := [⟨some 35, .mov (.t 0), none⟩,
  ⟨some 4, .mov (.t 35), none⟩]
def b30 : ICode :=
 (.seq (.reg [(0, false)] r30_0)
 (.seq (.seq (.reg [(0, false), (1, false), (2, false)] r30_1)
 (.seq (.block 0 (.loop (.seq (.mask [0, 9, 10, 11]) (.seq (.reg [(0, false)] r30_2)
 (.seq (.cond (.t 12) .skip
 (.exit 0))
 (.seq (.seq (.block 1 (.seq (.reg [(0, false), (1, false), (2, false)] r30_3)
 (.seq (.reg [(0, false), (1, false), (2, false), (3, false), (4, false), (5, false), (6, false)] r30_4)
 (.seq (.reg [(0, false), (1, false), (2, false), (3, false), (4, false), (5, false), (6, false), (7, false), (8, false), (9, false), (10, false)] r30_5)
 (.reg [(0, false), (1, false), (2, false), (3, false)] r30_6))))) (.mask [0, 9, 10, 11]))
 (.reg [(0, false), (1, false)] r30_7))))))) (.mask [0])))
 (.seq (.reg [(0, false), (1, false)] r30_8)
 .ret)))
def f30 : IFunc := { nt := 36, res := [((.t 4), none)], body := b30 }
def ps30 : List Phases := []
def ms30 : List (Option (List Nat)) := [some [0, 9, 10, 11], none, some [0, 9, 10, 11], some [0]]
-- (*chatelaine/code.Writer).Text
def r31_0 : List IOper := [⟨some 2, .mov (.c (.str (⟨#[]⟩ : ByteArray))), none⟩]
def r31_1 : List IOper := [⟨some 3, .mov (.t 0), none⟩,
  ⟨some 4, .nilck (.t 3), none⟩,
  ⟨some 5, .fld 0 (.t 4), none⟩,
  ⟨some 6, .load none (.t 5), none⟩,
  ⟨some 7, .b2s (.t 6), none⟩,
  ⟨some 2, .mov (.t 7), none⟩]
def b31 : ICode :=
 (.seq (.reg [(0, false)] r31_0)
 (.seq (.reg [(0, false), (1, false), (2, false), (3, false), (4, false), (5, false)] r31_1)
 .ret))
def f31 : IFunc := { nt := 8, res := [((.t 2), none)], body := b31 }
def ps31 : List Phases := []
def ms31 : List (Option (List Nat)) := []
-- (*chatelaine/code.Reader).Fail
def r32_0 : List IOper := [⟨some 4, .mov (.t 0), none⟩,
  ⟨some 5, .nilck (.t 4), none⟩,
  ⟨some 6, .fld 1 (.t 5), none⟩,
  ⟨some 7, .load none (.t 6), none⟩,
  ⟨some 8, .bin .eql (.t 7) (.c (.int .i64 0)), none⟩]
def r32_1 : List IOper := [⟨some 9, .mov (.t 0), none⟩,
  ⟨some 10, .mov (.t 1), none⟩,
  ⟨some 11, .nilck (.t 9), none⟩,
  ⟨some 12, .fld 1 (.t 11), none⟩,
  ⟨none, .store 1 (.t 12) (.t 10), none⟩]
def b32 : ICode :=
 (.seq (.reg [(0, false), (1, false), (2, false), (3, false), (4, false)] r32_0)
 (.seq (.cond (.t 8) (.reg [(0, false), (1, false), (2, false), (3, false), (4, false)] r32_1)
 .skip) (.mask [])))
def f32 : IFunc := { nt := 13, res := [], body := b32 }
def ps32 : List Phases := []
def ms32 : List (Option (List Nat)) := [some []]
-- chatelaine/chatelainelaw08.awake
def r33_0 : List IOper := [⟨some 0, .mov (.c (.bool false)), none⟩]
def r33_1 : List IOper := [⟨some 6, .build [(.int .u64 0), (.int .i64 0)] [(0, 1, (.c (.int .u64 4))), (1, 1, (.c (.int .i64 2)))], none⟩,
  ⟨some 7, .callF 66 [(.t 6), (.c (.int .i64 3))], none⟩,
  ⟨some 5, .mov (.t 7), none⟩,
  ⟨some 8, .ext (.t 5) 0, none⟩,
  ⟨some 9, .ext (.t 5) 1, none⟩,
  ⟨some 1, .alloc [(.int .u64 0), (.int .i64 0)], none⟩,
  ⟨none, .store 2 (.t 1) (.t 8), none⟩,
  ⟨some 2, .mov (.t 9), none⟩]
def r33_2 : List IOper := [⟨some 11, .build [(.int .u64 0), (.int .i64 0)] [(0, 1, (.c (.int .u64 4))), (1, 1, (.c (.int .i64 2)))], none⟩,
  ⟨some 12, .callF 66 [(.t 11), (.c (.int .i64 2))], none⟩,
  ⟨some 10, .mov (.t 12), none⟩,
  ⟨some 13, .ext (.t 10) 0, none⟩,
  ⟨some 14, .ext (.t 10) 1, none⟩,
  ⟨some 3, .alloc [(.int .u64 0), (.int .i64 0)], none⟩,
  ⟨none, .store 2 (.t 3) (.t 13), none⟩,
  ⟨some 4, .mov (.t 14), none⟩]
def r33_3 : List IOper := [⟨some 15, .mov (.t 2), none⟩,
  ⟨some 16, .bin .eql (.t 15) (.c (.int .i64 0)), none⟩,
  ⟨some 17, .mov (.t 16), none⟩,
  ⟨some 18, .mov (.t 4), some (17, true)⟩,
  ⟨some 19, .bin .eql (.t 18) (.c (.int .i64 0)), some (17, true)⟩,
  ⟨some 20, .pick (.t 17) (.t 19) (.c (.bool false)), none⟩,
  ⟨some 21, .mov (.t 20), none⟩,
  ⟨some 22, .load (some 2) (.t 1), some (21, true)⟩,
  ⟨some 23, .build [(.int .u64 0), (.int .i64 0)] [(0, 1, (.c (.int .u64 4))), (1, 1, (.c (.int .i64 3)))], some (21, true)⟩,
  ⟨some 24, .eqs false [1, 1] (.t 22) (.t 23), some (21, true)⟩,
  ⟨some 25, .pick (.t 21) (.t 24) (.c (.bool false)), none⟩,
  ⟨some 26, .mov (.t 25), none⟩,
  ⟨some 27, .load (some 2) (.t 3), some (26, true)⟩,
  ⟨some 28, .build [(.int .u64 0), (.int .i64 0)] [(0, 1, (.c (.int .u64 5))), (1, 1, (.c (.int .i64 2)))], some (26, true)⟩,
  ⟨some 29, .eqs false [1, 1] (.t 27) (.t 28), some (26, true)⟩,
  ⟨some 30, .pick (.t 26) (.t 29) (.c (.bool false)), none⟩,
  ⟨some 0, .mov (.t 30), none⟩]
def b33 : ICode :=
 (.seq (.reg [(0, false)] r33_0)
 (.seq (.reg [(0, false), (1, false), (2, false), (3, false), (4, false), (5, false), (6, false), (7, false)] r33_1)
 (.seq (.reg [(0, false), (1, false), (2, false), (3, false), (4, false), (5, false), (6, false), (7, false)] r33_2)
 (.seq (.reg [(0, false), (1, false), (2, false), (3, false), (4, false), (5, false), (6, false), (7, false), (8, false), (9, false), (10, false), (11, false), (12, false), (13, false), (14, false), (15, false), (16, false)] r33_3)
 .ret))))
def f33 : IFunc := { nt := 31, res := [((.t 0), none)], body := b33 }
def ps33 : List Phases := []
def ms33 : List (Option (List Nat)) := []
-- chatelaine/chatelainelaw08.Right
def r34_0 : List IOper := [⟨some 1, .box 2 (.t 0), none⟩,
  ⟨some 2, .alloc [(.int .u64 0), (.int .i64 0)], none⟩]
def r34_1 : List IOper := [⟨some 3, .fld 1 (.t 1), none⟩,
  ⟨some 4, .load none (.t 3), none⟩,
  ⟨some 5, .bin .rem (.t 4) (.c (.int .i64 12)), none⟩,
  ⟨some 6, .bin .add (.t 5) (.c (.int .i64 12)), none⟩,
  ⟨some 7, .bin .rem (.t 6) (.c (.int .i64 12)), none⟩,
  ⟨some 8, .fld 1 (.t 1), none⟩,
  ⟨none, .store 1 (.t 8) (.t 7), none⟩]
def r34_2 : List IOper := [⟨some 9, .fld 0 (.t 1), none⟩,
  ⟨some 10, .load none (.t 9), none⟩,
  ⟨some 11, .bin .eql (.t 10) (.c (.int .u64 0)), none⟩]
def r34_3 : List IOper := [⟨some 12, .fld 1 (.t 1), none⟩,
  ⟨none, .store 1 (.t 12) (.c (.int .i64 0)), none⟩]
def r34_4 : List IOper := [⟨some 13, .load (some 2) (.t 1), none⟩,
  ⟨none, .store 2 (.t 2) (.t 13), none⟩]
def b34 : ICode :=
 (.seq (.reg [(0, false), (1, false)] r34_0)
 (.seq (.reg [(0, false), (1, false), (2, false), (3, false), (4, false), (5, false), (6, false)] r34_1)
 (.seq (.seq (.reg [(0, false), (1, false), (2, false)] r34_2)
 (.seq (.cond (.t 11) (.reg [(0, false), (1, false)] r34_3)
 .skip) (.mask [1, 2])))
 (.seq (.reg [(0, false), (1, false)] r34_4)
 .ret))))
def f34 : IFunc := { nt := 14, res := [((.t 2), some (some 2))], body := b34 }
def ps34 : List Phases := []
def ms34 : List (Option (List Nat)) := [some [1, 2]]
-- (chatelaine/ballot.Ballot).Put
def r35_0 : List IOper := [⟨some 2, .box 2 (.t 0), none⟩]
def r35_1 : List IOper := [⟨some 4, .mov (.t 1), none⟩,
  ⟨some 5, .fld 0 (.t 2), none⟩,
  ⟨some 6, .load none (.t 5), none⟩,
  ⟨some 7, .buildS 1 1 [(.int .u64 0)] [(0, (.t 6))], none⟩,
  ⟨some 8, .callF 30 [(.t 4), (.t 7)], none⟩,
  ⟨some 9, .fld 1 (.t 2), none⟩,
  ⟨some 10, .load none (.t 9), none⟩,
  ⟨some 11, .buildS 1 1 [(.int .i64 0)] [(0, (.t 10))], none⟩,
  ⟨some 12, .callF 40 [(.t 8), (.t 11)], none⟩]
def b35 : ICode :=
 (.seq (.reg [(0, false)] r35_0)
 (.reg [(0, false), (1, false), (2, false), (5, false), (6, false), (3, false), (4, false), (6, true), (7, false), (8, false)] r35_1))
def f35 : IFunc := { nt := 13, res := [], body := b35 }
def ps35 : List Phases := [⟨[([(0, false), (1, false), (2, false), (5, false), (6, false), (3, false)], 4), ([(6, true), (7, false)], 8)], []⟩]
def ms35 : List (Option (List Nat)) := []
-- chatelaine/chatelaineref08.Put
def r36_0 : List IOper := [⟨some 1, .box 2 (.t 0), none⟩,
  ⟨some 2, .mov (.c (.str (⟨#[]⟩ : ByteArray))), none⟩]
def r36_1 : List IOper := [⟨some 3, .fld 0 (.t 1), none⟩,
  ⟨some 4, .load none (.t 3), none⟩,
  ⟨some 5, .callF 57 [(.t 4)], none⟩,
  ⟨some 6, .fld 1 (.t 1), none⟩,
  ⟨some 7, .load none (.t 6), none⟩,
  ⟨some 8, .callF 58 [(.t 7)], none⟩,
  ⟨some 9, .bin .add (.t 5) (.t 8), none⟩,
  ⟨some 2, .mov (.t 9), none⟩]
def b36 : ICode :=
 (.seq (.reg [(0, false), (1, false)] r36_0)
 (.seq (.reg [(0, false), (1, false), (3, false), (4, false), (2, false), (4, true), (5, false), (6, false), (7, false)] r36_1)
 .ret))
def f36 : IFunc := { nt := 10, res := [((.t 2), none)], body := b36 }
def ps36 : List Phases := [⟨[([(0, false), (1, false), (3, false), (4, false)], 2), ([(4, true)], 5)], [(6, false), (7, false)]⟩]
def ms36 : List (Option (List Nat)) := []
-- chatelaine/ballot.Get
def r37_0 : List IOper := [⟨some 2, .alloc [(.int .u64 0), (.int .i64 0)], none⟩]
def r37_1 : List IOper := [⟨some 4, .mov (.t 0), none⟩,
  ⟨some 5, .callF 19 [(.t 4)], none⟩,
  ⟨some 6, .build [(.int .u64 0), (.int .i64 0)] [(0, 1, (.t 5))], none⟩,
  ⟨some 3, .alloc [(.int .u64 0), (.int .i64 0)], none⟩,
  ⟨none, .store 2 (.t 3) (.t 6), none⟩]
def r37_2 : List IOper := [⟨some 7, .mov (.t 0), none⟩,
  ⟨some 8, .callF 21 [(.t 7), (.c (.int .i64 11))], none⟩,
  ⟨some 9, .fld 1 (.t 3), none⟩,
  ⟨none, .store 1 (.t 9) (.t 8), none⟩]
def r37_3 : List IOper := [⟨some 10, .fld 0 (.t 3), none⟩,
  ⟨some 11, .load none (.t 10), none⟩,
  ⟨some 12, .bin .eql (.t 11) (.c (.int .u64 0)), none⟩,
  ⟨some 13, .mov (.t 12), none⟩,
  ⟨some 14, .fld 1 (.t 3), some (13, true)⟩,
  ⟨some 15, .load none (.t 14), some (13, true)⟩,
  ⟨some 16, .bin .gtr (.t 15) (.c (.int .i64 0)), some (13, true)⟩,
  ⟨some 17, .pick (.t 13) (.t 16) (.c (.bool false)), none⟩]
def r37_4 : List IOper := [⟨some 18, .mov (.t 0), none⟩,
  ⟨some 19, .callF 32 [(.t 18), (.c (.int .i64 4))], none⟩]
def r37_5 : List IOper := [⟨some 20, .mov (.t 0), none⟩,
  ⟨some 21, .callF 26 [(.t 20)], none⟩,
  ⟨some 22, .bin .neq (.t 21) (.c (.int .i64 0)), none⟩]
def r37_6 : List IOper := [⟨some 23, .build [(.int .u64 0), (.int .i64 0)] [], none⟩,
  ⟨none, .store 2 (.t 2) (.t 23), none⟩]
def r37_7 : List IOper := [⟨some 24, .load (some 2) (.t 3), none⟩,
  ⟨none, .store 2 (.t 2) (.t 24), none⟩]
def b37 : ICode :=
 (.seq (.reg [(0, false)] r37_0)
 (.seq (.reg [(0, false), (1, false), (2, false), (3, false), (4, false)] r37_1)
 (.seq (.reg [(0, false), (1, false), (2, false), (3, false)] r37_2)
 (.seq (.seq (.reg [(0, false), (1, false), (2, false), (3, false), (4, false), (5, false), (6, false), (7, false)] r37_3)
 (.seq (.cond (.t 17) (.reg [(0, false), (1, false)] r37_4)
 .skip) (.mask [0, 2, 3])))
 (.seq (.seq (.reg [(0, false), (1, false), (2, false)] r37_5)
 (.cond (.t 22) (.seq (.reg [(0, false), (1, false)] r37_6)
 .ret)
 .skip))
 (.seq (.reg [(0, false), (1, false)] r37_7)
 .ret))))))
def f37 : IFunc := { nt := 25, res := [((.t 2), some (some 2))], body := b37 }
def ps37 : List Phases := []
def ms37 : List (Option (List Nat)) := [some [0, 2, 3], none]
-- chatelaine/chatelaineref08.Get
def r38_0 : List IOper := [⟨some 1, .box 2 (.t 0), none⟩,
  ⟨some 2, .alloc [(.str (⟨#[]⟩ : ByteArray)), (.int .i64 0)], none⟩,
  ⟨some 3, .alloc [(.int .u64 0), (.int .i64 0)], none⟩]
def r38_1 : List IOper := [⟨some 9, .load (some 2) (.t 1), none⟩,
  ⟨some 10, .callF 18 [(.t 9)], none⟩,
  ⟨some 8, .mov (.t 10), none⟩,
  ⟨some 11, .ext (.t 8) 0, none⟩,
  ⟨some 12, .ext (.t 8) 1, none⟩,
  ⟨some 4, .alloc [(.str (⟨#[]⟩ : ByteArray)), (.int .i64 0)], none⟩,
  ⟨none, .store 2 (.t 4) (.t 11), none⟩,
  ⟨some 5, .mov (.t 12), none⟩]
def r38_2 : List IOper := [⟨some 14, .load (some 2) (.t 4), none⟩,
  ⟨some 15, .callF 20 [(.t 14), (.c (.int .i64 11))], none⟩,
  ⟨some 13, .mov (.t 15), none⟩,
  ⟨some 16, .ext (.t 13) 0, none⟩,
  ⟨some 17, .ext (.t 13) 1, none⟩,
  ⟨some 6, .alloc [(.str (⟨#[]⟩ : ByteArray)), (.int .i64 0)], none⟩,
  ⟨none, .store 2 (.t 6) (.t 16), none⟩,
  ⟨some 7, .mov (.t 17), none⟩]
def r38_3 : List IOper := [⟨some 18, .fld 1 (.t 6), none⟩,
  ⟨some 19, .load none (.t 18), none⟩,
  ⟨some 20, .bin .eql (.t 19) (.c (.int .i64 0)), none⟩,
  ⟨some 21, .mov (.t 20), none⟩,
  ⟨some 22, .mov (.t 5), some (21, true)⟩,
  ⟨some 23, .bin .eql (.t 22) (.c (.int .u64 0)), some (21, true)⟩,
  ⟨some 24, .pick (.t 21) (.t 23) (.c (.bool false)), none⟩,
  ⟨some 25, .mov (.t 24), none⟩,
  ⟨some 26, .mov (.t 7), some (25, true)⟩,
  ⟨some 27, .bin .gtr (.t 26) (.c (.int .i64 0)), some (25, true)⟩,
  ⟨some 28, .pick (.t 25) (.t 27) (.c (.bool false)), none⟩]
def r38_4 : List IOper := [⟨some 29, .fld 1 (.t 6), none⟩,
  ⟨none, .store 1 (.t 29) (.c (.int .i64 4)), none⟩]
def r38_5 : List IOper := [⟨some 30, .fld 1 (.t 6), none⟩,
  ⟨some 31, .load none (.t 30), none⟩,
  ⟨some 32, .bin .neq (.t 31) (.c (.int .i64 0)), none⟩]
def r38_6 : List IOper := [⟨some 33, .load (some 2) (.t 6), none⟩,
  ⟨some 34, .build [(.int .u64 0), (.int .i64 0)] [], none⟩,
  ⟨none, .store 2 (.t 2) (.t 33), none⟩,
  ⟨none, .store 2 (.t 3) (.t 34), none⟩]
def r38_7 : List IOper := [⟨some 35, .load (some 2) (.t 6), none⟩,
  ⟨some 36, .mov (.t 5), none⟩,
  ⟨some 37, .mov (.t 7), none⟩,
  ⟨some 38, .build [(.int .u64 0), (.int .i64 0)] [(0, 1, (.t 36)), (1, 1, (.t 37))], none⟩,
  ⟨none, .store 2 (.t 2) (.t 35), none⟩,
  ⟨none, .store 2 (.t 3) (.t 38), none⟩]
def b38 : ICode :=
 (.seq (.reg [(0, false), (1, false), (2, false)] r38_0)
 (.seq (.reg [(0, false), (1, false), (2, false), (3, false), (4, false), (5, false), (6, false), (7, false)] r38_1)
 (.seq (.reg [(0, false), (1, false), (2, false), (3, false), (4, false), (5, false), (6, false), (7, false)] r38_2)
 (.seq (.seq (.reg [(0, false), (1, false), (2, false), (3, false), (4, false), (5, false), (6, false), (7, false), (8, false), (9, false), (10, false)] r38_3)
 (.seq (.cond (.t 28) (.reg [(0, false), (1, false)] r38_4)
 .skip) (.mask [2, 3, 5, 6, 7])))
 (.seq (.seq (.reg [(0, false), (1, false), (2, false)] r38_5)
 (.cond (.t 32) (.seq (.reg [(0, false), (1, false), (2, false), (3, false)] r38_6)
 .ret)
 .skip))
 (.seq (.reg [(0, false), (1, false), (2, false), (3, false), (4, false), (5, false)] r38_7)
 .ret))))))
def f38 : IFunc := { nt := 39, res := [((.t 2), some (some 2)), ((.t 3), some (some 2))], body := b38 }
def ps38 : List Phases := []
def ms38 : List (Option (List Nat)) := [some [2, 3, 5, 6, 7], none]
-- (*chatelaine/code.Writer).N
def r40_0 : List IOper := [⟨some 4, .mov (.c .nilp), none⟩]
def r40_1 : List IOper := [⟨some 7, .mov (.t 1), none⟩,
  ⟨some 8, .lenL (.t 7), none⟩,
  ⟨some 9, .mov (.c (.int .i64 0)), none⟩]
def r40_2 : List IOper := [⟨some 10, .bin .lss (.t 9) (.t 8), none⟩]
def r40_3 : List IOper := [⟨some 11, .ixS 1 (.t 7) (.t 9), none⟩,
  ⟨some 12, .load none (.t 11), none⟩,
  ⟨some 6, .mov (.t 12), none⟩]
def r40_4 : List IOper := [⟨some 13, .mov (.t 0), none⟩,
  ⟨some 14, .mov (.t 6), none⟩,
  ⟨some 15, .maxi [(.t 14), (.c (.int .i64 0))], none⟩,
  ⟨some 16, .conv .u64 (.t 15), none⟩,
  ⟨some 17, .buildS 1 1 [(.int .u64 0)] [(0, (.t 16))], none⟩,
  ⟨some 18, .callF 30 [(.t 13), (.t 17)], none⟩]
def r40_5 : List IOper := [⟨some 19, .bin .add (.t 9) (.c (.int .i64 1)), none⟩,
  ⟨some 9, .mov (.t 19), none⟩]
def r40_6 : List IOper := [⟨some 20, .mov (.t 0), none⟩,
  ⟨some 4, .mov (.t 20), none⟩]
def b40 : ICode :=
 (.seq (.reg [(0, false)] r40_0)
 (.seq (.seq (.reg [(0, false), (1, false), (2, false)] r40_1)
 (.seq (.block 0 (.loop (.seq (.mask [0, 7, 8, 9]) (.seq (.reg [(0, false)] r40_2)
 (.seq (.cond (.t 10) .skip
 (.exit 0))
 (.seq (.seq (.block 1 (.seq (.reg [(0, false), (1, false), (2, false)] r40_3)
 (.reg [(0, false), (1, false), (2, false), (3, false), (4, false), (5, false)] r40_4))) (.mask [0, 7, 8, 9]))
 (.reg [(0, false), (1, false)] r40_5))))))) (.mask [0])))
 (.seq (.reg [(0, false), (1, false)] r40_6)
 .ret)))
def f40 : IFunc := { nt := 21, res := [((.t 4), none)], body := b40 }
def ps40 : List Phases := []
def ms40 : List (Option (List Nat)) := [some [0, 7, 8, 9], none, some [0, 7, 8, 9], some [0]]
-- (*chatelaine/code.Writer).S
def r41_0 : List IOper := [⟨some 4, .mov (.c .nilp), none⟩]
def r41_1 : List IOper := [⟨some 7, .mov (.t 1), none⟩,
  ⟨some 8, .lenL (.t 7), none⟩,
  ⟨some 9, .mov (.c (.int .i64 0)), none⟩]
def r41_2 : List IOper := [⟨some 10, .bin .lss (.t 9) (.t 8), none⟩]
def r41_3 : List IOper := [⟨some 11, .ixS 1 (.t 7) (.t 9), none⟩,
  ⟨some 12, .load none (.t 11), none⟩,
  ⟨some 6, .mov (.t 12), none⟩]
def r41_4 : List IOper := [⟨some 13, .mov (.t 0), none⟩,
  ⟨some 14, .mov (.t 6), none⟩,
  ⟨some 15, .lenS (.t 14), none⟩,
  ⟨some 16, .buildS 1 1 [(.int .i64 0)] [(0, (.t 15))], none⟩,
  ⟨some 17, .callF 40 [(.t 13), (.t 16)], none⟩]
def r41_5 : List IOper := [⟨some 18, .mov (.t 0), none⟩,
  ⟨some 19, .mov (.t 0), none⟩,
  ⟨some 20, .nilck (.t 19), none⟩,
  ⟨some 21, .fld 0 (.t 20), none⟩,
  ⟨some 22, .load none (.t 21), none⟩,
  ⟨some 23, .mov (.t 6), none⟩,
  ⟨some 24, .app 1 1 (.t 22) (.t 23), none⟩,
  ⟨some 25, .nilck (.t 18), none⟩,
  ⟨some 26, .fld 0 (.t 25), none⟩,
  ⟨none, .store 1 (.t 26) (.t 24), none⟩]
def r41_6 : List IOper := [⟨some 27, .bin .add (.t 9) (.c (.int .i64 1)), none⟩,
  ⟨some 9, .mov (.t 27), none⟩]
def r41_7 : List IOper := [⟨some 28, .mov (.t 0), none⟩,
  ⟨some 4, .mov (.t 28), none⟩]
def b41 : ICode :=
 (.seq (.reg [(0, false)] r41_0)
 (.seq (.seq (.reg [(0, false), (1, false), (2, false)] r41_1)
 (.seq (.block 0 (.loop (.seq (.mask [0, 7, 8, 9]) (.seq (.reg [(0, false)] r41_2)
 (.seq (.cond (.t 10) .skip
 (.exit 0))
 (.seq (.seq (.block 1 (.seq (.reg [(0, false), (1, false), (2, false)] r41_3)
 (.seq (.reg [(0, false), (1, false), (2, false), (3, false), (4, false)] r41_4)
 (.reg [(0, false), (1, false), (2, false), (3, false), (4, false), (5, false), (6, false), (7, false), (8, false), (9, false)] r41_5)))) (.mask [0, 7, 8, 9]))
 (.reg [(0, false), (1, false)] r41_6))))))) (.mask [0])))
 (.seq (.reg [(0, false), (1, false)] r41_7)
 .ret)))
def f41 : IFunc := { nt := 29, res := [((.t 4), none)], body := b41 }
def ps41 : List Phases := []
def ms41 : List (Option (List Nat)) := [some [0, 7, 8, 9], none, some [0, 7, 8, 9], some [0]]
-- (*chatelaine/code.Writer).B
def r42_0 : List IOper := [⟨some 4, .mov (.c .nilp), none⟩]
def r42_1 : List IOper := [⟨some 8, .mov (.t 1), none⟩,
  ⟨some 9, .lenL (.t 8), none⟩,
  ⟨some 10, .mov (.c (.int .i64 0)), none⟩]
def r42_2 : List IOper := [⟨some 11, .bin .lss (.t 10) (.t 9), none⟩]
def r42_3 : List IOper := [⟨some 12, .ixS 1 (.t 8) (.t 10), none⟩,
  ⟨some 13, .load none (.t 12), none⟩,
  ⟨some 6, .mov (.t 13), none⟩]
def r42_4 : List IOper := [⟨some 7, .mov (.c (.int .u8 0)), none⟩]
def r42_5 : List IOper := [⟨some 14, .mov (.t 6), none⟩]
def r42_6 : List IOper := [⟨some 7, .mov (.c (.int .u8 1)), none⟩]
def r42_7 : List IOper := [⟨some 15, .mov (.t 0), none⟩,
  ⟨some 16, .mov (.t 0), none⟩,
  ⟨some 17, .nilck (.t 16), none⟩,
  ⟨some 18, .fld 0 (.t 17), none⟩,
  ⟨some 19, .load none (.t 18), none⟩,
  ⟨some 20, .mov (.t 7), none⟩,
  ⟨some 21, .buildS 1 1 [(.int .u8 0)] [(0, (.t 20))], none⟩,
  ⟨some 22, .app 1 1 (.t 19) (.t 21), none⟩,
  ⟨some 23, .nilck (.t 15), none⟩,
  ⟨some 24, .fld 0 (.t 23), none⟩,
  ⟨none, .store 1 (.t 24) (.t 22), none⟩]
def r42_8 : List IOper := [⟨some 25, .bin .add (.t 10) (.c (.int .i64 1)), none⟩,
  ⟨some 10, .mov (.t 25), none⟩]
def r42_9 : List IOper := [⟨some 26, .mov (.t 0), none⟩,
  ⟨some 4, .mov (.t 26), none⟩]
def b42 : ICode :=
 (.seq (.reg [(0, false)] r42_0)
 (.seq (.seq (.reg [(0, false), (1, false), (2, false)] r42_1)
 (.seq (.block 0 (.loop (.seq (.mask [0, 8, 9, 10]) (.seq (.reg [(0, false)] r42_2)
 (.seq (.cond (.t 11) .skip
 (.exit 0))
 (.seq (.seq (.block 1 (.seq (.reg [(0, false), (1, false), (2, false)] r42_3)
 (.seq (.reg [(0, false)] r42_4)
 (.seq (.seq (.reg [(0, false)] r42_5)
 (.seq (.cond (.t 14) (.reg [(0, false)] r42_6)
 .skip) (.mask [0, 7, 8, 9, 10])))
 (.reg [(0, false), (1, false), (2, false), (3, false), (4, false), (5, false), (6, false), (7, false), (8, false), (9, false), (10, false)] r42_7))))) (.mask [0, 8, 9, 10]))
 (.reg [(0, false), (1, false)] r42_8))))))) (.mask [0])))
 (.seq (.reg [(0, false), (1, false)] r42_9)
 .ret)))
def f42 : IFunc := { nt := 27, res := [((.t 4), none)], body := b42 }
def ps42 : List Phases := []
def ms42 : List (Option (List Nat)) := [some [0, 8, 9, 10], none, some [0, 7, 8, 9, 10], some [0, 8, 9, 10], some [0]]
-- chatelaine/chatelaineref01.U
def r57_0 : List IOper := [⟨some 2, .mov (.c (.str (⟨#[]⟩ : ByteArray))), none⟩]
def r57_1 : List IOper := [⟨some 3, .mov (.t 0), none⟩,
  ⟨some 4, .bin .lss (.t 3) (.c (.int .u64 252)), none⟩]
def r57_2 : List IOper := [⟨some 5, .mov (.t 0), none⟩,
  ⟨some 6, .callF 80 [(.t 5), (.c (.int .i64 1))], none⟩,
  ⟨some 2, .mov (.t 6), none⟩]
def r57_3 : List IOper := [⟨some 7, .mov (.t 0), none⟩,
  ⟨some 8, .bin .lss (.t 7) (.c (.int .u64 65536)), none⟩]
def r57_4 : List IOper := [⟨some 9, .mov (.t 0), none⟩,
  ⟨some 10, .callF 80 [(.t 9), (.c (.int .i64 2))], none⟩,
  ⟨some 11, .bin .add (.c (.str (⟨#[252]⟩ : ByteArray))) (.t 10), none⟩,
  ⟨some 2, .mov (.t 11), none⟩]
def r57_5 : List IOper := [⟨some 12, .mov (.t 0), none⟩,
  ⟨some 13, .bin .lss (.t 12) (.c (.int .u64 4294967296)), none⟩]
def r57_6 : List IOper := [⟨some 14, .mov (.t 0), none⟩,
  ⟨some 15, .callF 80 [(.t 14), (.c (.int .i64 4))], none⟩,
  ⟨some 16, .bin .add (.c (.str (⟨#[253]⟩ : ByteArray))) (.t 15), none⟩,
  ⟨some 2, .mov (.t 16), none⟩]
def r57_7 : List IOper := [⟨some 17, .mov (.t 0), none⟩,
  ⟨some 18, .callF 80 [(.t 17), (.c (.int .i64 8))], none⟩,
  ⟨some 19, .bin .add (.c (.str (⟨#[254]⟩ : ByteArray))) (.t 18), none⟩,
  ⟨some 2, .mov (.t 19), none⟩]
def b57 : ICode :=
 (.seq (.reg [(0, false)] r57_0)
 (.seq (.seq (.reg [(0, false), (1, false)] r57_1)
 (.cond (.t 4) (.seq (.reg [(0, false), (1, false), (2, false)] r57_2)
 .ret)
 .skip))
 (.seq (.seq (.reg [(0, false), (1, false)] r57_3)
 (.cond (.t 8) (.seq (.reg [(0, false), (1, false), (2, false), (3, false)] r57_4)
 .ret)
 .skip))
 (.seq (.seq (.reg [(0, false), (1, false)] r57_5)
 (.cond (.t 13) (.seq (.reg [(0, false), (1, false), (2, false), (3, false)] r57_6)
 .ret)
 .skip))
 (.seq (.reg [(0, false), (1, false), (2, false), (3, false)] r57_7)
 .ret)))))
def f57 : IFunc := { nt := 20, res := [((.t 2), none)], body := b57 }
def ps57 : List Phases := []
def ms57 : List (Option (List Nat)) := [none, none, none]
-- chatelaine/chatelaineref01.N
def r58_0 : List IOper := [⟨some 2, .mov (.c (.str (⟨#[]⟩ : ByteArray))), none⟩]
def r58_1 : List IOper := [⟨some 3, .mov (.t 0), none⟩,
  ⟨some 4, .bin .lss (.t 3) (.c (.int .i64 0)), none⟩]
def r58_2 : List IOper := [⟨some 5, .callF 57 [(.c (.int .u64 0))], none⟩,
  ⟨some 2, .mov (.t 5), none⟩]
def r58_3 : List IOper := [⟨some 6, .mov (.t 0), none⟩,
  ⟨some 7, .conv .u64 (.t 6), none⟩,
  ⟨some 8, .callF 57 [(.t 7)], none⟩,
  ⟨some 2, .mov (.t 8), none⟩]
def b58 : ICode :=
 (.seq (.reg [(0, false)] r58_0)
 (.seq (.seq (.reg [(0, false), (1, false)] r58_1)
 (.cond (.t 4) (.seq (.reg [(0, false), (1, false)] r58_2)
 .ret)
 .skip))
 (.seq (.reg [(0, false), (1, false), (2, false), (3, false)] r58_3)
 .ret)))
def f58 : IFunc := { nt := 9, res := [((.t 2), none)], body := b58 }
def ps58 : List Phases := []
def ms58 : List (Option (List Nat)) := [none]
-- chatelaine/chatelaineref01.B
def r59_0 : List IOper := [⟨some 2, .mov (.c (.str (⟨#[]⟩ : ByteArray))), none⟩]
def r59_1 : List IOper := [⟨some 3, .mov (.t 0), none⟩]
def r59_2 : List IOper := [⟨some 2, .mov (.c (.str (⟨#[1]⟩ : ByteArray))), none⟩]
def r59_3 : List IOper := [⟨some 2, .mov (.c (.str (⟨#[0]⟩ : ByteArray))), none⟩]
def b59 : ICode :=
 (.seq (.reg [(0, false)] r59_0)
 (.seq (.seq (.reg [(0, false)] r59_1)
 (.cond (.t 3) (.seq (.reg [(0, false)] r59_2)
 .ret)
 .skip))
 (.seq (.reg [(0, false)] r59_3)
 .ret)))
def f59 : IFunc := { nt := 4, res := [((.t 2), none)], body := b59 }
def ps59 : List Phases := []
def ms59 : List (Option (List Nat)) := [none]
-- chatelaine/chatelaineref01.S
def r60_0 : List IOper := [⟨some 2, .mov (.c (.str (⟨#[]⟩ : ByteArray))), none⟩]
def r60_1 : List IOper := [⟨some 3, .mov (.t 0), none⟩,
  ⟨some 4, .lenS (.t 3), none⟩,
  ⟨some 5, .callF 58 [(.t 4)], none⟩,
  ⟨some 6, .mov (.t 0), none⟩,
  ⟨some 7, .bin .add (.t 5) (.t 6), none⟩,
  ⟨some 2, .mov (.t 7), none⟩]
def b60 : ICode :=
 (.seq (.reg [(0, false)] r60_0)
 (.seq (.reg [(0, false), (1, false), (2, false), (3, false), (4, false), (5, false)] r60_1)
 .ret))
def f60 : IFunc := { nt := 8, res := [((.t 2), none)], body := b60 }
def ps60 : List Phases := []
def ms60 : List (Option (List Nat)) := []
-- chatelaine/chatelaineref01.take
def r61_0 : List IOper := [⟨some 2, .box 2 (.t 0), none⟩,
  ⟨some 4, .alloc [(.str (⟨#[]⟩ : ByteArray)), (.int .i64 0)], none⟩,
  ⟨some 5, .mov (.c (.str (⟨#[]⟩ : ByteArray))), none⟩]
def r61_1 : List IOper := [⟨some 6, .fld 1 (.t 2), none⟩,
  ⟨some 7, .load none (.t 6), none⟩,
  ⟨some 8, .bin .eql (.t 7) (.c (.int .i64 0)), none⟩,
  ⟨some 9, .mov (.t 8), none⟩,
  ⟨some 10, .mov (.t 1), some (9, true)⟩,
  ⟨some 11, .fld 0 (.t 2), some (9, true)⟩,
  ⟨some 12, .load none (.t 11), some (9, true)⟩,
  ⟨some 13, .lenS (.t 12), some (9, true)⟩,
  ⟨some 14, .bin .gtr (.t 10) (.t 13), some (9, true)⟩,
  ⟨some 15, .pick (.t 9) (.t 14) (.c (.bool false)), none⟩]
def r61_2 : List IOper := [⟨some 16, .fld 1 (.t 2), none⟩,
  ⟨none, .store 1 (.t 16) (.c (.int .i64 3)), none⟩]
def r61_3 : List IOper := [⟨some 17, .fld 1 (.t 2), none⟩,
  ⟨some 18, .load none (.t 17), none⟩,
  ⟨some 19, .bin .neq (.t 18) (.c (.int .i64 0)), none⟩]
def r61_4 : List IOper := [⟨some 20, .load (some 2) (.t 2), none⟩,
  ⟨none, .store 2 (.t 4) (.t 20), none⟩,
  ⟨some 5, .mov (.c (.str (⟨#[]⟩ : ByteArray))), none⟩]
def r61_5 : List IOper := [⟨some 21, .fld 0 (.t 2), none⟩,
  ⟨some 22, .load none (.t 21), none⟩,
  ⟨some 23, .mov (.t 1), none⟩,
  ⟨some 24, .slcStr (.t 22) (some (.t 23)) none, none⟩,
  ⟨some 25, .build [(.str (⟨#[]⟩ : ByteArray)), (.int .i64 0)] [(0, 1, (.t 24)), (1, 1, (.c (.int .i64 0)))], none⟩,
  ⟨some 26, .fld 0 (.t 2), none⟩,
  ⟨some 27, .load none (.t 26), none⟩,
  ⟨some 28, .mov (.t 1), none⟩,
  ⟨some 29, .slcStr (.t 27) none (some (.t 28)), none⟩,
  ⟨none, .store 2 (.t 4) (.t 25), none⟩,
  ⟨some 5, .mov (.t 29), none⟩]
def b61 : ICode :=
 (.seq (.reg [(0, false), (1, false), (2, false)] r61_0)
 (.seq (.seq (.reg [(0, false), (1, false), (2, false), (3, false), (4, false), (5, false), (6, false), (7, false), (8, false), (9, false)] r61_1)
 (.seq (.cond (.t 15) (.reg [(0, false), (1, false)] r61_2)
 .skip) (.mask [1, 2, 4])))
 (.seq (.seq (.reg [(0, false), (1, false), (2, false)] r61_3)
 (.cond (.t 19) (.seq (.reg [(0, false), (1, false), (2, false)] r61_4)
 .ret)
 .skip))
 (.seq (.reg [(0, false), (1, false), (2, false), (3, false), (4, false), (5, false), (6, false), (7, false), (8, false), (9, false), (6, true), (10, false)] r61_5)
 .ret))))
def f61 : IFunc := { nt := 30, res := [((.t 4), some (some 2)), ((.t 5), none)], body := b61 }
def ps61 : List Phases := [⟨[([(0, false), (1, false), (2, false), (3, false), (4, false), (5, false), (6, false), (7, false), (8, false)], 9)], [(6, true), (10, false)]⟩]
def ms61 : List (Option (List Nat)) := [some [1, 2, 4], none]
-- chatelaine/chatelaineref01.fail
def r62_0 : List IOper := [⟨some 2, .box 2 (.t 0), none⟩,
  ⟨some 4, .alloc [(.str (⟨#[]⟩ : ByteArray)), (.int .i64 0)], none⟩]
def r62_1 : List IOper := [⟨some 5, .fld 1 (.t 2), none⟩,
  ⟨some 6, .load none (.t 5), none⟩,
  ⟨some 7, .bin .eql (.t 6) (.c (.int .i64 0)), none⟩]
def r62_2 : List IOper := [⟨some 8, .mov (.t 1), none⟩,
  ⟨some 9, .fld 1 (.t 2), none⟩,
  ⟨none, .store 1 (.t 9) (.t 8), none⟩]
def r62_3 : List IOper := [⟨some 10, .load (some 2) (.t 2), none⟩,
  ⟨none, .store 2 (.t 4) (.t 10), none⟩]
def b62 : ICode :=
 (.seq (.reg [(0, false), (1, false)] r62_0)
 (.seq (.seq (.reg [(0, false), (1, false), (2, false)] r62_1)
 (.seq (.cond (.t 7) (.reg [(0, false), (1, false), (2, false)] r62_2)
 .skip) (.mask [2, 4])))
 (.seq (.reg [(0, false), (1, false)] r62_3)
 .ret)))
def f62 : IFunc := { nt := 11, res := [((.t 4), some (some 2))], body := b62 }
def ps62 : List Phases := []
def ms62 : List (Option (List Nat)) := [some [2, 4]]
-- (*chatelaine/code.Reader).take
def r63_0 : List IOper := [⟨some 4, .mov (.c (.str (⟨#[]⟩ : ByteArray))), none⟩]
def r63_1 : List IOper := [⟨some 6, .mov (.t 1), none⟩,
  ⟨some 7, .mov (.t 0), none⟩,
  ⟨some 8, .nilck (.t 7), none⟩,
  ⟨some 9, .fld 0 (.t 8), none⟩,
  ⟨some 10, .load none (.t 9), none⟩,
  ⟨some 11, .lenS (.t 10), none⟩,
  ⟨some 12, .bin .gtr (.t 6) (.t 11), none⟩]
def r63_2 : List IOper := [⟨some 13, .mov (.t 0), none⟩,
  ⟨some 14, .callF 32 [(.t 13), (.c (.int .i64 3))], none⟩]
def r63_3 : List IOper := [⟨some 15, .mov (.t 0), none⟩,
  ⟨some 16, .nilck (.t 15), none⟩,
  ⟨some 17, .fld 1 (.t 16), none⟩,
  ⟨some 18, .load none (.t 17), none⟩,
  ⟨some 19, .bin .neq (.t 18) (.c (.int .i64 0)), none⟩]
def r63_4 : List IOper := [⟨some 4, .mov (.c (.str (⟨#[]⟩ : ByteArray))), none⟩]
def r63_5 : List IOper := [⟨some 20, .mov (.t 0), none⟩,
  ⟨some 21, .nilck (.t 20), none⟩,
  ⟨some 22, .fld 0 (.t 21), none⟩,
  ⟨some 23, .load none (.t 22), none⟩,
  ⟨some 24, .mov (.t 1), none⟩,
  ⟨some 25, .slcStr (.t 23) none (some (.t 24)), none⟩,
  ⟨some 5, .mov (.t 25), none⟩]
def r63_6 : List IOper := [⟨some 26, .mov (.t 0), none⟩,
  ⟨some 27, .mov (.t 0), none⟩,
  ⟨some 28, .nilck (.t 27), none⟩,
  ⟨some 29, .fld 0 (.t 28), none⟩,
  ⟨some 30, .load none (.t 29), none⟩,
  ⟨some 31, .mov (.t 1), none⟩,
  ⟨some 32, .slcStr (.t 30) (some (.t 31)) none, none⟩,
  ⟨some 33, .nilck (.t 26), none⟩,
  ⟨some 34, .fld 0 (.t 33), none⟩,
  ⟨none, .store 1 (.t 34) (.t 32), none⟩]
def r63_7 : List IOper := [⟨some 35, .mov (.t 5), none⟩,
  ⟨some 4, .mov (.t 35), none⟩]
def b63 : ICode :=
 (.seq (.reg [(0, false)] r63_0)
 (.seq (.seq (.reg [(0, false), (1, false), (2, false), (3, false), (4, false), (5, false), (6, false)] r63_1)
 (.seq (.cond (.t 12) (.reg [(0, false), (1, false)] r63_2)
 .skip) (.mask [0, 1])))
 (.seq (.seq (.reg [(0, false), (1, false), (2, false), (3, false), (4, false)] r63_3)
 (.cond (.t 19) (.seq (.reg [(0, false)] r63_4)
 .ret)
 .skip))
 (.seq (.reg [(0, false), (1, false), (2, false), (3, false), (4, false), (5, false), (6, false)] r63_5)
 (.seq (.reg [(0, false), (1, false), (2, false), (3, false), (4, false), (5, false), (6, false), (7, false), (8, false), (9, false)] r63_6)
 (.seq (.reg [(0, false), (1, false)] r63_7)
 .ret))))))
def f63 : IFunc := { nt := 36, res := [((.t 4), none)], body := b63 }
def ps63 : List Phases := []
def ms63 : List (Option (List Nat)) := [some [0, 1], none]
-- chatelaine/code.head
def r64_0 : List IOper := [⟨some 2, .mov (.c (.int .u8 0)), none⟩,
  ⟨some 3, .mov (.c (.int .i64 0)), none⟩]
def r64_1 : List IOper := [⟨some 5, .mov (.t 0), none⟩,
  ⟨some 6, .bin .lss (.t 5) (.c (.int .u64 252)), none⟩,
  ⟨some 4, .mov (.t 6), none⟩]
def r64_2 : List IOper := [⟨some 7, .mov (.t 0), none⟩,
  ⟨some 8, .conv .u8 (.t 7), none⟩,
  ⟨some 2, .mov (.t 8), none⟩,
  ⟨some 3, .mov (.c (.int .i64 0)), none⟩]
def r64_3 : List IOper := [⟨some 10, .mov (.t 0), none⟩,
  ⟨some 11, .bin .lss (.t 10) (.c (.int .u64 65536)), none⟩,
  ⟨some 9, .mov (.t 11), none⟩]
def r64_4 : List IOper := [⟨some 2, .mov (.c (.int .u8 252)), none⟩,
  ⟨some 3, .mov (.c (.int .i64 2)), none⟩]
def r64_5 : List IOper := [⟨some 13, .mov (.t 0), none⟩,
  ⟨some 14, .bin .lss (.t 13) (.c (.int .u64 4294967296)), none⟩,
  ⟨some 12, .mov (.t 14), none⟩]
def r64_6 : List IOper := [⟨some 2, .mov (.c (.int .u8 253)), none⟩,
  ⟨some 3, .mov (.c (.int .i64 4)), none⟩]
def r64_7 : List IOper := [⟨some 2, .mov (.c (.int .u8 254)), none⟩,
  ⟨some 3, .mov (.c (.int .i64 8)), none⟩]
def b64 : ICode :=
 (.seq (.reg [(0, false), (1, false)] r64_0)
 (.seq (.seq (.block 0 (.seq (.reg [(0, false), (1, false), (2, false)] r64_1)
 (.cond (.t 4) (.seq (.reg [(0, false), (1, false), (2, false), (3, false)] r64_2)
 .ret)
 (.seq (.reg [(0, false), (1, false), (2, false)] r64_3)
 (.cond (.t 9) (.seq (.reg [(0, false), (1, false)] r64_4)
 .ret)
 (.seq (.reg [(0, false), (1, false), (2, false)] r64_5)
 (.cond (.t 12) (.seq (.reg [(0, false), (1, false)] r64_6)
 .ret)
 .skip))))))) (.mask []))
 (.seq (.reg [(0, false), (1, false)] r64_7)
 .ret)))
def f64 : IFunc := { nt := 15, res := [((.t 2), none), ((.t 3), none)], body := b64 }
def ps64 : List Phases := []
def ms64 : List (Option (List Nat)) := [none, none, none, some []]
-- (*chatelaine/code.Writer).wide
def r65_0 : List IOper := [⟨some 7, .mov (.t 2), none⟩,
  ⟨some 8, .bin .sub (.t 7) (.c (.int .i64 1)), none⟩,
  ⟨some 6, .mov (.t 8), none⟩]
def r65_1 : List IOper := [⟨some 9, .mov (.t 6), none⟩,
  ⟨some 10, .bin .geq (.t 9) (.c (.int .i64 0)), none⟩]
def r65_2 : List IOper := [⟨some 13, .mov (.t 0), none⟩,
  ⟨some 14, .mov (.t 0), none⟩,
  ⟨some 15, .nilck (.t 14), none⟩,
  ⟨some 16, .fld 0 (.t 15), none⟩,
  ⟨some 17, .load none (.t 16), none⟩,
  ⟨some 18, .mov (.t 1), none⟩,
  ⟨some 19, .mov (.t 6), none⟩,
  ⟨some 20, .bin .mul (.c (.int .i64 8)) (.t 19), none⟩,
  ⟨some 21, .bin .shr (.t 18) (.t 20), none⟩,
  ⟨some 22, .conv .u8 (.t 21), none⟩,
  ⟨some 23, .buildS 1 1 [(.int .u8 0)] [(0, (.t 22))], none⟩,
  ⟨some 24, .app 1 1 (.t 17) (.t 23), none⟩,
  ⟨some 25, .nilck (.t 13), none⟩,
  ⟨some 26, .fld 0 (.t 25), none⟩,
  ⟨none, .store 1 (.t 26) (.t 24), none⟩]
def r65_3 : List IOper := [⟨some 11, .mov (.t 6), none⟩,
  ⟨some 12, .bin .sub (.t 11) (.c (.int .i64 1)), none⟩,
  ⟨some 6, .mov (.t 12), none⟩]
def b65 : ICode :=
 (.seq (.reg [(0, false), (1, false), (2, false)] r65_0)
 (.seq (.block 0 (.loop (.seq (.mask [0, 1, 6]) (.seq (.seq (.reg [(0, false), (1, false)] r65_1)
 (.cond (.t 10) .skip
 (.exit 0)))
 (.seq (.seq (.block 1 (.reg [(0, false), (1, false), (2, false), (3, false), (4, false), (5, false), (6, false), (7, false), (8, false), (9, false), (10, false), (11, false), (12, false), (13, false), (14, false)] r65_2)) (.mask [0, 1, 6]))
 (.reg [(0, false), (1, false), (2, false)] r65_3)))))) (.mask [])))
def f65 : IFunc := { nt := 27, res := [], body := b65 }
def ps65 : List Phases := [⟨[([(0, false), (1, false), (2, false), (3, false), (4, false), (5, false), (6, false), (7, false), (8, false), (9, false), (10, false)], 11), ([(12, false), (13, false)], 14)], []⟩]
def ms65 : List (Option (List Nat)) := [some [0, 1, 6], none, some [0, 1, 6], some []]
-- chatelaine/ballot.Next
def r66_0 : List IOper := [⟨some 2, .box 2 (.t 0), none⟩,
  ⟨some 4, .alloc [(.int .u64 0), (.int .i64 0)], none⟩,
  ⟨some 5, .mov (.c (.int .i64 0)), none⟩]
def r66_1 : List IOper := [⟨some 7, .mov (.t 1), none⟩,
  ⟨some 8, .bin .lss (.t 7) (.c (.int .i64 0)), none⟩,
  ⟨some 9, .mov (.t 8), none⟩,
  ⟨some 10, .mov (.t 1), some (9, false)⟩,
  ⟨some 11, .bin .geq (.t 10) (.c (.int .i64 12)), some (9, false)⟩,
  ⟨some 12, .pick (.t 9) (.c (.bool true)) (.t 11), none⟩,
  ⟨some 6, .mov (.t 12), none⟩]
def r66_2 : List IOper := [⟨some 13, .build [(.int .u64 0), (.int .i64 0)] [], none⟩,
  ⟨none, .store 2 (.t 4) (.t 13), none⟩,
  ⟨some 5, .mov (.c (.int .i64 2)), none⟩]
def r66_3 : List IOper := [⟨some 15, .fld 0 (.t 2), none⟩,
  ⟨some 16, .load none (.t 15), none⟩,
  ⟨some 17, .bin .gtr (.t 16) (.c (.int .u64 0)), none⟩,
  ⟨some 18, .mov (.t 17), none⟩,
  ⟨some 19, .mov (.t 1), some (18, true)⟩,
  ⟨some 20, .fld 1 (.t 2), some (18, true)⟩,
  ⟨some 21, .load none (.t 20), some (18, true)⟩,
  ⟨some 22, .bin .gtr (.t 19) (.t 21), some (18, true)⟩,
  ⟨some 23, .pick (.t 18) (.t 22) (.c (.bool false)), none⟩,
  ⟨some 14, .mov (.t 23), none⟩]
def r66_4 : List IOper := [⟨some 24, .fld 0 (.t 2), none⟩,
  ⟨some 25, .load none (.t 24), none⟩,
  ⟨some 26, .mov (.t 1), none⟩,
  ⟨some 27, .build [(.int .u64 0), (.int .i64 0)] [(0, 1, (.t 25)), (1, 1, (.t 26))], none⟩,
  ⟨none, .store 2 (.t 4) (.t 27), none⟩,
  ⟨some 5, .mov (.c (.int .i64 0)), none⟩]
def r66_5 : List IOper := [⟨some 29, .fld 0 (.t 2), none⟩,
  ⟨some 30, .load none (.t 29), none⟩,
  ⟨some 31, .bin .eql (.t 30) (.c (.int .u64 18446744073709551615)), none⟩,
  ⟨some 28, .mov (.t 31), none⟩]
def r66_6 : List IOper := [⟨some 32, .build [(.int .u64 0), (.int .i64 0)] [], none⟩,
  ⟨none, .store 2 (.t 4) (.t 32), none⟩,
  ⟨some 5, .mov (.c (.int .i64 19)), none⟩]
def r66_7 : List IOper := [⟨some 33, .fld 0 (.t 2), none⟩,
  ⟨some 34, .load none (.t 33), none⟩,
  ⟨some 35, .bin .add (.t 34) (.c (.int .u64 1)), none⟩,
  ⟨some 36, .mov (.t 1), none⟩,
  ⟨some 37, .build [(.int .u64 0), (.int .i64 0)] [(0, 1, (.t 35)), (1, 1, (.t 36))], none⟩,
  ⟨none, .store 2 (.t 4) (.t 37), none⟩,
  ⟨some 5, .mov (.c (.int .i64 0)), none⟩]
def b66 : ICode :=
 (.seq (.reg [(0, false), (1, false), (2, false)] r66_0)
 (.seq (.seq (.block 0 (.seq (.reg [(0, false), (1, false), (2, false), (3, false), (4, false), (5, false), (6, false)] r66_1)
 (.cond (.t 6) (.seq (.reg [(0, false), (1, false), (2, false)] r66_2)
 .ret)
 (.seq (.reg [(0, false), (1, false), (2, false), (3, false), (4, false), (5, false), (6, false), (7, false), (8, false), (9, false)] r66_3)
 (.cond (.t 14) (.seq (.reg [(0, false), (1, false), (2, false), (3, false), (4, false), (5, false)] r66_4)
 .ret)
 (.seq (.reg [(0, false), (1, false), (2, false), (3, false)] r66_5)
 (.cond (.t 28) (.seq (.reg [(0, false), (1, false), (2, false)] r66_6)
 .ret)
 .skip))))))) (.mask [1, 2, 4]))
 (.seq (.reg [(0, false), (1, false), (2, false), (3, false), (4, false), (5, false), (6, false)] r66_7)
 .ret)))
def f66 : IFunc := { nt := 38, res := [((.t 4), some (some 2)), ((.t 5), none)], body := b66 }
def ps66 : List Phases := []
def ms66 : List (Option (List Nat)) := [none, none, none, some [1, 2, 4]]
-- chatelaine/chatelaineref01.wide
def r80_0 : List IOper := [⟨some 4, .mov (.c (.str (⟨#[]⟩ : ByteArray))), none⟩]
def r80_1 : List IOper := [⟨some 5, .mov (.c (.str (⟨#[]⟩ : ByteArray))), none⟩]
def r80_2 : List IOper := [⟨some 6, .mov (.c (.int .i64 0)), none⟩]
def r80_3 : List IOper := [⟨some 7, .mov (.t 6), none⟩,
  ⟨some 8, .mov (.t 1), none⟩,
  ⟨some 9, .bin .lss (.t 7) (.t 8), none⟩]
def r80_4 : List IOper := [⟨some 12, .mov (.t 0), none⟩,
  ⟨some 13, .bin .rem (.t 12) (.c (.int .u64 256)), none⟩,
  ⟨some 14, .conv .u8 (.t 13), none⟩,
  ⟨some 15, .buildS 1 1 [(.int .u8 0)] [(0, (.t 14))], none⟩,
  ⟨some 16, .b2s (.t 15), none⟩,
  ⟨some 17, .mov (.t 5), none⟩,
  ⟨some 18, .bin .add (.t 16) (.t 17), none⟩,
  ⟨some 5, .mov (.t 18), none⟩]
def r80_5 : List IOper := [⟨some 19, .mov (.t 0), none⟩,
  ⟨some 20, .bin .quo (.t 19) (.c (.int .u64 256)), none⟩,
  ⟨some 0, .mov (.t 20), none⟩]
def r80_6 : List IOper := [⟨some 10, .mov (.t 6), none⟩,
  ⟨some 11, .bin .add (.t 10) (.c (.int .i64 1)), none⟩,
  ⟨some 6, .mov (.t 11), none⟩]
def r80_7 : List IOper := [⟨some 21, .mov (.t 5), none⟩,
  ⟨some 4, .mov (.t 21), none⟩]
def b80 : ICode :=
 (.seq (.reg [(0, false)] r80_0)
 (.seq (.reg [(0, false)] r80_1)
 (.seq (.seq (.reg [(0, false)] r80_2)
 (.seq (.block 0 (.loop (.seq (.mask [0, 1, 5, 6]) (.seq (.seq (.reg [(0, false), (1, false), (2, false)] r80_3)
 (.cond (.t 9) .skip
 (.exit 0)))
 (.seq (.seq (.block 1 (.seq (.reg [(0, false), (1, false), (2, false), (3, false), (4, false), (5, false), (6, false), (7, false)] r80_4)
 (.reg [(0, false), (1, false), (2, false)] r80_5))) (.mask [0, 1, 5, 6]))
 (.reg [(0, false), (1, false), (2, false)] r80_6)))))) (.mask [5])))
 (.seq (.reg [(0, false), (1, false)] r80_7)
 .ret))))
def f80 : IFunc := { nt := 22, res := [((.t 4), none)], body := b80 }
def ps80 : List Phases := []
def ms80 : List (Option (List Nat)) := [some [0, 1, 5, 6], none, some [0, 1, 5, 6], some [5]]
theorem ok3 : rfunc Try.prog Try.f3 ps3 ms3 = some f3 := by kernel_rfl
theorem ok4 : rfunc Try.prog Try.f4 ps4 ms4 = some f4 := by kernel_rfl
theorem ok5 : rfunc Try.prog Try.f5 ps5 ms5 = some f5 := by kernel_rfl
theorem ok6 : rfunc Try.prog Try.f6 ps6 ms6 = some f6 := by kernel_rfl
theorem ok7 : rfunc Try.prog Try.f7 ps7 ms7 = some f7 := by kernel_rfl
theorem ok13 : rfunc Try.prog Try.f13 ps13 ms13 = some f13 := by kernel_rfl
theorem ok14 : rfunc Try.prog Try.f14 ps14 ms14 = some f14 := by kernel_rfl
theorem ok15 : rfunc Try.prog Try.f15 ps15 ms15 = some f15 := by kernel_rfl
theorem ok16 : rfunc Try.prog Try.f16 ps16 ms16 = some f16 := by kernel_rfl
theorem ok17 : rfunc Try.prog Try.f17 ps17 ms17 = some f17 := by kernel_rfl
theorem ok18 : rfunc Try.prog Try.f18 ps18 ms18 = some f18 := by kernel_rfl
theorem ok19 : rfunc Try.prog Try.f19 ps19 ms19 = some f19 := by kernel_rfl
theorem ok20 : rfunc Try.prog Try.f20 ps20 ms20 = some f20 := by kernel_rfl
theorem ok21 : rfunc Try.prog Try.f21 ps21 ms21 = some f21 := by kernel_rfl
theorem ok22 : rfunc Try.prog Try.f22 ps22 ms22 = some f22 := by kernel_rfl
theorem ok23 : rfunc Try.prog Try.f23 ps23 ms23 = some f23 := by kernel_rfl
theorem ok24 : rfunc Try.prog Try.f24 ps24 ms24 = some f24 := by kernel_rfl
theorem ok25 : rfunc Try.prog Try.f25 ps25 ms25 = some f25 := by kernel_rfl
theorem ok26 : rfunc Try.prog Try.f26 ps26 ms26 = some f26 := by kernel_rfl
theorem ok27 : rfunc Try.prog Try.f27 ps27 ms27 = some f27 := by kernel_rfl
theorem ok28 : rfunc Try.prog Try.f28 ps28 ms28 = some f28 := by kernel_rfl
theorem ok29 : rfunc Try.prog Try.f29 ps29 ms29 = some f29 := by kernel_rfl
theorem ok30 : rfunc Try.prog Try.f30 ps30 ms30 = some f30 := by kernel_rfl
theorem ok31 : rfunc Try.prog Try.f31 ps31 ms31 = some f31 := by kernel_rfl
theorem ok32 : rfunc Try.prog Try.f32 ps32 ms32 = some f32 := by kernel_rfl
theorem ok33 : rfunc Try.prog Try.f33 ps33 ms33 = some f33 := by kernel_rfl
theorem ok34 : rfunc Try.prog Try.f34 ps34 ms34 = some f34 := by kernel_rfl
theorem ok35 : rfunc Try.prog Try.f35 ps35 ms35 = some f35 := by kernel_rfl
theorem ok36 : rfunc Try.prog Try.f36 ps36 ms36 = some f36 := by kernel_rfl
theorem ok37 : rfunc Try.prog Try.f37 ps37 ms37 = some f37 := by kernel_rfl
theorem ok38 : rfunc Try.prog Try.f38 ps38 ms38 = some f38 := by kernel_rfl
theorem ok40 : rfunc Try.prog Try.f40 ps40 ms40 = some f40 := by kernel_rfl
theorem ok41 : rfunc Try.prog Try.f41 ps41 ms41 = some f41 := by kernel_rfl
theorem ok42 : rfunc Try.prog Try.f42 ps42 ms42 = some f42 := by kernel_rfl
theorem ok57 : rfunc Try.prog Try.f57 ps57 ms57 = some f57 := by kernel_rfl
theorem ok58 : rfunc Try.prog Try.f58 ps58 ms58 = some f58 := by kernel_rfl
theorem ok59 : rfunc Try.prog Try.f59 ps59 ms59 = some f59 := by kernel_rfl
theorem ok60 : rfunc Try.prog Try.f60 ps60 ms60 = some f60 := by kernel_rfl
theorem ok61 : rfunc Try.prog Try.f61 ps61 ms61 = some f61 := by kernel_rfl
theorem ok62 : rfunc Try.prog Try.f62 ps62 ms62 = some f62 := by kernel_rfl
theorem ok63 : rfunc Try.prog Try.f63 ps63 ms63 = some f63 := by kernel_rfl
theorem ok64 : rfunc Try.prog Try.f64 ps64 ms64 = some f64 := by kernel_rfl
theorem ok65 : rfunc Try.prog Try.f65 ps65 ms65 = some f65 := by kernel_rfl
theorem ok66 : rfunc Try.prog Try.f66 ps66 ms66 = some f66 := by kernel_rfl
theorem ok80 : rfunc Try.prog Try.f80 ps80 ms80 = some f80 := by kernel_rfl
def T : FuncId → Option IFunc
  | 3 => some f3
  | 4 => some f4
  | 5 => some f5
  | 6 => some f6
  | 7 => some f7
  | 13 => some f13
  | 14 => some f14
  | 15 => some f15
  | 16 => some f16
  | 17 => some f17
  | 18 => some f18
  | 19 => some f19
  | 20 => some f20
  | 21 => some f21
  | 22 => some f22
  | 23 => some f23
  | 24 => some f24
  | 25 => some f25
  | 26 => some f26
  | 27 => some f27
  | 28 => some f28
  | 29 => some f29
  | 30 => some f30
  | 31 => some f31
  | 32 => some f32
  | 33 => some f33
  | 34 => some f34
  | 35 => some f35
  | 36 => some f36
  | 37 => some f37
  | 38 => some f38
  | 40 => some f40
  | 41 => some f41
  | 42 => some f42
  | 57 => some f57
  | 58 => some f58
  | 59 => some f59
  | 60 => some f60
  | 61 => some f61
  | 62 => some f62
  | 63 => some f63
  | 64 => some f64
  | 65 => some f65
  | 66 => some f66
  | 80 => some f80
  | _ => none
theorem T_ok : TOk Try.prog T := by
  intro f i h
  unfold T at h
  split at h <;> cases h
  · exact ⟨_, _, _, Try.func3, ok3⟩
  · exact ⟨_, _, _, Try.func4, ok4⟩
  · exact ⟨_, _, _, Try.func5, ok5⟩
  · exact ⟨_, _, _, Try.func6, ok6⟩
  · exact ⟨_, _, _, Try.func7, ok7⟩
  · exact ⟨_, _, _, Try.func13, ok13⟩
  · exact ⟨_, _, _, Try.func14, ok14⟩
  · exact ⟨_, _, _, Try.func15, ok15⟩
  · exact ⟨_, _, _, Try.func16, ok16⟩
  · exact ⟨_, _, _, Try.func17, ok17⟩
  · exact ⟨_, _, _, Try.func18, ok18⟩
  · exact ⟨_, _, _, Try.func19, ok19⟩
  · exact ⟨_, _, _, Try.func20, ok20⟩
  · exact ⟨_, _, _, Try.func21, ok21⟩
  · exact ⟨_, _, _, Try.func22, ok22⟩
  · exact ⟨_, _, _, Try.func23, ok23⟩
  · exact ⟨_, _, _, Try.func24, ok24⟩
  · exact ⟨_, _, _, Try.func25, ok25⟩
  · exact ⟨_, _, _, Try.func26, ok26⟩
  · exact ⟨_, _, _, Try.func27, ok27⟩
  · exact ⟨_, _, _, Try.func28, ok28⟩
  · exact ⟨_, _, _, Try.func29, ok29⟩
  · exact ⟨_, _, _, Try.func30, ok30⟩
  · exact ⟨_, _, _, Try.func31, ok31⟩
  · exact ⟨_, _, _, Try.func32, ok32⟩
  · exact ⟨_, _, _, Try.func33, ok33⟩
  · exact ⟨_, _, _, Try.func34, ok34⟩
  · exact ⟨_, _, _, Try.func35, ok35⟩
  · exact ⟨_, _, _, Try.func36, ok36⟩
  · exact ⟨_, _, _, Try.func37, ok37⟩
  · exact ⟨_, _, _, Try.func38, ok38⟩
  · exact ⟨_, _, _, Try.func40, ok40⟩
  · exact ⟨_, _, _, Try.func41, ok41⟩
  · exact ⟨_, _, _, Try.func42, ok42⟩
  · exact ⟨_, _, _, Try.func57, ok57⟩
  · exact ⟨_, _, _, Try.func58, ok58⟩
  · exact ⟨_, _, _, Try.func59, ok59⟩
  · exact ⟨_, _, _, Try.func60, ok60⟩
  · exact ⟨_, _, _, Try.func61, ok61⟩
  · exact ⟨_, _, _, Try.func62, ok62⟩
  · exact ⟨_, _, _, Try.func63, ok63⟩
  · exact ⟨_, _, _, Try.func64, ok64⟩
  · exact ⟨_, _, _, Try.func65, ok65⟩
  · exact ⟨_, _, _, Try.func66, ok66⟩
  · exact ⟨_, _, _, Try.func80, ok80⟩
end Go.Proofs.YtgekngfnhhdamaaI
