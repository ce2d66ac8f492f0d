/- The functions of the laws, told as the machine's; no conditions. -/
import Derived.Test.YtgekngfnhhdamaaProg
import Derived.Test.YtgekngfnhhdamaaM25
set_option maxRecDepth 100000
set_option linter.unusedVariables false
namespace Go.Proofs.YtgekngfnhhdamaaI
open Go Go.Proofs.YtgekngfnhhdamaaM
-- chatelaine/chatelainetop.ChatelaineFrames
def r8_0 : List IOper := [⟨some 4, .mov (.c (.bool false)), none⟩]
def r8_1 : List IOper := [⟨some 5, .mov (.c (.str (⟨#[]⟩ : ByteArray))), none⟩]
def r8_2 : List IOper := [⟨some 6, .mov (.c .nils), none⟩]
def r8_3 : List IOper := [⟨some 7, .mov (.c (.int .i64 0)), none⟩]
def r8_4 : List IOper := [⟨some 18, .mov (.t 7), none⟩,
  ⟨some 19, .mov (.t 0), none⟩,
  ⟨some 20, .lenL (.t 19), none⟩,
  ⟨some 21, .bin .lss (.t 18) (.t 20), none⟩,
  ⟨some 22, .mov (.t 21), none⟩,
  ⟨some 23, .mov (.t 7), some (22, true)⟩,
  ⟨some 24, .bin .lss (.t 23) (.c (.int .i64 12)), some (22, true)⟩,
  ⟨some 25, .pick (.t 22) (.t 24) (.c (.bool false)), none⟩]
def r8_5 : List IOper := [⟨some 8, .alloc [.nils], none⟩]
def r8_6 : List IOper := [⟨some 28, .mov (.t 5), none⟩,
  ⟨some 29, .mov (.t 7), none⟩,
  ⟨some 30, .bin .add (.c (.int .i64 1)) (.t 29), none⟩,
  ⟨some 31, .conv .u8 (.t 30), none⟩,
  ⟨some 32, .mov (.t 7), none⟩,
  ⟨some 33, .buildS 1 1 [(.int .i64 0)] [(0, (.t 32))], none⟩,
  ⟨some 34, .callF 40 [(.t 8), (.t 33)], none⟩,
  ⟨some 35, .mov (.t 0), none⟩,
  ⟨some 36, .mov (.t 7), none⟩,
  ⟨some 37, .ixS 1 (.t 35) (.t 36), none⟩,
  ⟨some 38, .load none (.t 37), none⟩,
  ⟨some 39, .callF 16 [(.t 38), (.c (.int .i64 80))], none⟩,
  ⟨some 40, .buildS 1 1 [(.str (⟨#[]⟩ : ByteArray))] [(0, (.t 39))], none⟩,
  ⟨some 41, .callF 41 [(.t 34), (.t 40)], none⟩,
  ⟨some 42, .mov (.t 7), none⟩,
  ⟨some 43, .bin .gtr (.t 42) (.c (.int .i64 3)), none⟩,
  ⟨some 44, .buildS 1 1 [(.bool false)] [(0, (.t 43))], none⟩,
  ⟨some 45, .callF 42 [(.t 41), (.t 44)], none⟩,
  ⟨some 46, .callF 31 [(.t 45)], none⟩,
  ⟨some 47, .callF 39 [(.t 31), (.t 46)], none⟩,
  ⟨some 48, .bin .add (.t 28) (.t 47), none⟩,
  ⟨some 5, .mov (.t 48), none⟩]
def r8_7 : List IOper := [⟨some 49, .mov (.t 6), none⟩,
  ⟨some 50, .mov (.t 5), none⟩,
  ⟨some 51, .lenS (.t 50), none⟩,
  ⟨some 52, .buildS 1 1 [(.int .i64 0)] [(0, (.t 51))], none⟩,
  ⟨some 53, .app 1 8 (.t 49) (.t 52), none⟩,
  ⟨some 6, .mov (.t 53), none⟩]
def r8_8 : List IOper := [⟨some 26, .mov (.t 7), none⟩,
  ⟨some 27, .bin .add (.t 26) (.c (.int .i64 1)), none⟩,
  ⟨some 7, .mov (.t 27), none⟩]
def r8_9 : List IOper := [⟨some 54, .mov (.t 1), none⟩,
  ⟨some 55, .mov (.t 5), none⟩,
  ⟨some 56, .lenS (.t 55), none⟩,
  ⟨some 57, .mini [(.t 54), (.t 56)], none⟩,
  ⟨some 58, .maxi [(.c (.int .i64 0)), (.t 57)], none⟩,
  ⟨some 1, .mov (.t 58), none⟩]
def r8_10 : List IOper := [⟨some 60, .mov (.t 5), none⟩,
  ⟨some 61, .mov (.t 1), none⟩,
  ⟨some 62, .slcStr (.t 60) none (some (.t 61)), none⟩,
  ⟨some 63, .callF 43 [(.t 62)], none⟩,
  ⟨some 59, .mov (.t 63), none⟩,
  ⟨some 64, .ext (.t 59) 0, none⟩,
  ⟨some 65, .ext (.t 59) 1, none⟩,
  ⟨some 9, .mov (.t 64), none⟩,
  ⟨some 10, .mov (.t 65), none⟩]
def r8_11 : List IOper := [⟨some 11, .mov (.c (.int .i64 0)), none⟩]
def r8_12 : List IOper := [⟨some 66, .mov (.t 11), none⟩,
  ⟨some 67, .mov (.t 6), none⟩,
  ⟨some 68, .lenL (.t 67), none⟩,
  ⟨some 69, .bin .lss (.t 66) (.t 68), none⟩,
  ⟨some 70, .mov (.t 69), none⟩,
  ⟨some 71, .mov (.t 6), some (70, true)⟩,
  ⟨some 72, .mov (.t 11), some (70, true)⟩,
  ⟨some 73, .ixS 1 (.t 71) (.t 72), some (70, true)⟩,
  ⟨some 74, .load none (.t 73), some (70, true)⟩,
  ⟨some 75, .mov (.t 1), some (70, true)⟩,
  ⟨some 76, .bin .leq (.t 74) (.t 75), some (70, true)⟩,
  ⟨some 77, .pick (.t 70) (.t 76) (.c (.bool false)), none⟩]
def r8_13 : List IOper := [⟨some 78, .mov (.t 11), none⟩,
  ⟨some 79, .bin .add (.t 78) (.c (.int .i64 1)), none⟩,
  ⟨some 11, .mov (.t 79), none⟩]
def r8_14 : List IOper := [⟨some 80, .mov (.t 9), none⟩,
  ⟨some 81, .lenL (.t 80), none⟩,
  ⟨some 82, .mov (.t 11), none⟩,
  ⟨some 83, .bin .neq (.t 81) (.t 82), none⟩,
  ⟨some 84, .mov (.t 83), none⟩,
  ⟨some 85, .mov (.t 11), some (84, false)⟩,
  ⟨some 86, .bin .gtr (.t 85) (.c (.int .i64 0)), some (84, false)⟩,
  ⟨some 87, .mov (.t 86), some (84, false)⟩,
  ⟨some 88, .mov (.t 10), some (87, true)⟩,
  ⟨some 89, .mov (.t 6), some (87, true)⟩,
  ⟨some 90, .mov (.t 11), some (87, true)⟩,
  ⟨some 91, .bin .sub (.t 90) (.c (.int .i64 1)), some (87, true)⟩,
  ⟨some 92, .ixS 1 (.t 89) (.t 91), some (87, true)⟩,
  ⟨some 93, .load none (.t 92), some (87, true)⟩,
  ⟨some 94, .bin .neq (.t 88) (.t 93), some (87, true)⟩,
  ⟨some 95, .pick (.t 87) (.t 94) (.c (.bool false)), some (84, false)⟩,
  ⟨some 96, .pick (.t 84) (.c (.bool true)) (.t 95), none⟩,
  ⟨some 97, .mov (.t 96), none⟩,
  ⟨some 98, .mov (.t 11), some (97, false)⟩,
  ⟨some 99, .bin .eql (.t 98) (.c (.int .i64 0)), some (97, false)⟩,
  ⟨some 100, .mov (.t 99), some (97, false)⟩,
  ⟨some 101, .mov (.t 10), some (100, true)⟩,
  ⟨some 102, .bin .neq (.t 101) (.c (.int .i64 0)), some (100, true)⟩,
  ⟨some 103, .pick (.t 100) (.t 102) (.c (.bool false)), some (97, false)⟩,
  ⟨some 104, .pick (.t 97) (.c (.bool true)) (.t 103), none⟩]
def r8_15 : List IOper := [⟨some 4, .mov (.c (.bool false)), none⟩]
def r8_16 : List IOper := [⟨some 105, .mov (.t 9), none⟩,
  ⟨some 106, .lenL (.t 105), none⟩,
  ⟨some 107, .mov (.c (.int .i64 0)), none⟩]
def r8_17 : List IOper := [⟨some 108, .bin .lss (.t 107) (.t 106), none⟩]
def r8_18 : List IOper := [⟨some 109, .mov (.t 107), none⟩,
  ⟨some 110, .ixS 2 (.t 105) (.t 107), none⟩,
  ⟨some 111, .load (some 2) (.t 110), none⟩,
  ⟨some 13, .alloc [(.int .u8 0), (.str (⟨#[]⟩ : ByteArray))], none⟩,
  ⟨some 12, .mov (.t 109), none⟩,
  ⟨none, .store 2 (.t 13) (.t 111), none⟩]
def r8_19 : List IOper := [⟨some 112, .fld 1 (.t 13), none⟩,
  ⟨some 113, .load none (.t 112), none⟩,
  ⟨some 114, .callF 17 [(.t 113)], none⟩,
  ⟨some 14, .mov (.t 114), none⟩]
def r8_20 : List IOper := [⟨some 115, .mov (.t 14), none⟩,
  ⟨some 116, .callF 21 [(.t 115), (.c (.int .i64 12))], none⟩,
  ⟨some 117, .mov (.t 14), none⟩,
  ⟨some 118, .callF 25 [(.t 117), (.c (.int .i64 80))], none⟩,
  ⟨some 119, .mov (.t 14), none⟩,
  ⟨some 120, .callF 23 [(.t 119)], none⟩,
  ⟨some 15, .mov (.t 116), none⟩,
  ⟨some 16, .mov (.t 118), none⟩,
  ⟨some 17, .mov (.t 120), none⟩]
def r8_21 : List IOper := [⟨some 121, .mov (.t 15), none⟩,
  ⟨some 122, .mov (.t 12), none⟩,
  ⟨some 123, .bin .neq (.t 121) (.t 122), none⟩,
  ⟨some 124, .mov (.t 123), none⟩,
  ⟨some 125, .mov (.t 16), some (124, false)⟩,
  ⟨some 126, .mov (.t 0), some (124, false)⟩,
  ⟨some 127, .mov (.t 12), some (124, false)⟩,
  ⟨some 128, .ixS 1 (.t 126) (.t 127), some (124, false)⟩,
  ⟨some 129, .load none (.t 128), some (124, false)⟩,
  ⟨some 130, .callF 16 [(.t 129), (.c (.int .i64 80))], some (124, false)⟩,
  ⟨some 131, .bin .neq (.t 125) (.t 130), some (124, false)⟩,
  ⟨some 132, .pick (.t 124) (.c (.bool true)) (.t 131), none⟩,
  ⟨some 133, .mov (.t 132), none⟩,
  ⟨some 134, .mov (.t 17), some (133, false)⟩,
  ⟨some 135, .mov (.t 12), some (133, false)⟩,
  ⟨some 136, .bin .gtr (.t 135) (.c (.int .i64 3)), some (133, false)⟩,
  ⟨some 137, .eqn 0 true (.t 134) (.t 136), some (133, false)⟩,
  ⟨some 138, .pick (.t 133) (.c (.bool true)) (.t 137), none⟩,
  ⟨some 139, .mov (.t 138), none⟩,
  ⟨some 140, .mov (.t 14), some (139, false)⟩,
  ⟨some 141, .callF 29 [(.t 140)], some (139, false)⟩,
  ⟨some 142, .bin .neq (.t 141) (.c (.int .i64 0)), some (139, false)⟩,
  ⟨some 143, .pick (.t 139) (.c (.bool true)) (.t 142), none⟩,
  ⟨some 144, .mov (.t 143), none⟩,
  ⟨some 145, .fld 0 (.t 13), some (144, false)⟩,
  ⟨some 146, .load none (.t 145), some (144, false)⟩,
  ⟨some 147, .conv .i64 (.t 146), some (144, false)⟩,
  ⟨some 148, .mov (.t 12), some (144, false)⟩,
  ⟨some 149, .bin .add (.c (.int .i64 1)) (.t 148), some (144, false)⟩,
  ⟨some 150, .bin .neq (.t 147) (.t 149), some (144, false)⟩,
  ⟨some 151, .pick (.t 144) (.c (.bool true)) (.t 150), none⟩]
def r8_22 : List IOper := [⟨some 4, .mov (.c (.bool false)), none⟩]
def r8_23 : List IOper := [⟨some 152, .bin .add (.t 107) (.c (.int .i64 1)), none⟩,
  ⟨some 107, .mov (.t 152), none⟩]
def r8_24 : List IOper := [⟨some 153, .buildS 1 1 [(.str (⟨#[]⟩ : ByteArray))] [(0, (.c (.str (⟨#[49, 50, 51, 52, 53, 54, 55, 56, 57]⟩ : ByteArray))))], none⟩,
  ⟨some 154, .callF 44 [(.t 153)], none⟩,
  ⟨some 155, .bin .eql (.t 154) (.c (.int .u32 3421780262)), none⟩,
  ⟨some 4, .mov (.t 155), none⟩]
def b8 : ICode :=
 (.seq (.reg [(0, false)] r8_0)
 (.seq (.reg [(0, false)] r8_1)
 (.seq (.reg [(0, false)] r8_2)
 (.seq (.seq (.reg [(0, false)] r8_3)
 (.seq (.block 0 (.loop (.seq (.mask [0, 1, 5, 6, 7]) (.seq (.seq (.reg [(0, false), (1, false), (2, false), (3, false), (4, false), (5, false), (6, false), (7, false)] r8_4)
 (.cond (.t 25) .skip
 (.exit 0)))
 (.seq (.seq (.block 1 (.seq (.reg [(0, false)] r8_5)
 (.seq (.reg [(0, false), (1, false), (2, false), (3, false), (4, false), (7, false), (8, false), (9, false), (10, false), (14, false), (15, false), (5, false), (6, false), (10, true), (11, false), (12, false), (13, false), (16, false), (17, false), (18, false), (19, false), (20, false), (21, false)] r8_6)
 (.reg [(0, false), (1, false), (2, false), (3, false), (4, false), (5, false)] r8_7)))) (.mask [0, 1, 5, 6, 7]))
 (.reg [(0, false), (1, false), (2, false)] r8_8)))))) (.mask [0, 1, 5, 6])))
 (.seq (.reg [(0, false), (1, false), (2, false), (3, false), (4, false), (5, false)] r8_9)
 (.seq (.reg [(0, false), (1, false), (2, false), (3, false), (4, false), (5, false), (6, false), (7, false), (8, false)] r8_10)
 (.seq (.reg [(0, false)] r8_11)
 (.seq (.seq (.block 2 (.loop (.seq (.mask [0, 1, 6, 9, 10, 11]) (.seq (.seq (.reg [(0, false), (1, false), (2, false), (3, false), (4, false), (5, false), (6, false), (7, false), (8, false), (9, false), (10, false), (11, false)] r8_12)
 (.cond (.t 77) .skip
 (.exit 2)))
 (.seq (.block 3 (.reg [(0, false), (1, false), (2, false)] r8_13)) (.mask [0, 1, 6, 9, 10, 11])))))) (.mask [0, 6, 9, 10, 11]))
 (.seq (.seq (.reg [(0, false), (1, false), (2, false), (3, false), (4, false), (5, false), (6, false), (7, false), (8, false), (9, false), (10, false), (11, false), (12, false), (13, false), (14, false), (15, false), (16, false), (17, false), (18, false), (19, false), (20, false), (21, false), (22, false), (23, false), (24, false)] r8_14)
 (.cond (.t 104) (.seq (.reg [(0, false)] r8_15)
 .ret)
 .skip))
 (.seq (.seq (.reg [(0, false), (1, false), (2, false)] r8_16)
 (.seq (.block 4 (.loop (.seq (.mask [0, 105, 106, 107]) (.seq (.reg [(0, false)] r8_17)
 (.seq (.cond (.t 108) .skip
 (.exit 4))
 (.seq (.seq (.block 5 (.seq (.reg [(0, false), (1, false), (2, false), (3, false), (4, false), (5, false)] r8_18)
 (.seq (.reg [(0, false), (1, false), (2, false), (3, false)] r8_19)
 (.seq (.reg [(0, false), (1, false), (2, false), (3, false), (4, false), (5, false), (6, false), (7, false), (8, false)] r8_20)
 (.seq (.reg [(0, false), (1, false), (2, false), (3, false), (4, false), (5, false), (6, false), (7, false), (8, false), (9, false), (10, false), (11, false), (12, false), (13, false), (14, false), (15, false), (16, false), (17, false), (18, false), (19, false), (20, false), (21, false), (22, false), (23, false), (24, false), (25, false), (26, false), (27, false), (28, false), (29, false), (30, false)] r8_21)
 (.cond (.t 151) (.seq (.reg [(0, false)] r8_22)
 .ret)
 .skip)))))) (.mask [0, 105, 106, 107]))
 (.reg [(0, false), (1, false)] r8_23))))))) (.mask [])))
 (.seq (.reg [(0, false), (1, false), (2, false), (3, false)] r8_24)
 .ret)))))))))))
def f8 : IFunc := { nt := 156, res := [((.t 4), none)], body := b8 }
def ps8 : List Phases := [⟨[([(0, false), (1, false), (2, false), (3, false), (4, false), (7, false), (8, false), (9, false), (10, false), (14, false), (15, false), (5, false)], 6), ([(10, true)], 11), ([(12, false)], 13), ([(16, false)], 17), ([], 18), ([], 19)], [(20, false), (21, false)]⟩]
def ms8 : List (Option (List Nat)) := [some [0, 1, 5, 6, 7], none, some [0, 1, 5, 6, 7], some [0, 1, 5, 6], some [0, 1, 6, 9, 10, 11], none, some [0, 1, 6, 9, 10, 11], some [0, 6, 9, 10, 11], none, some [0, 105, 106, 107], none, none, some [0, 105, 106, 107], some []]
-- chatelaine/chatelainelaw01.Cut
def r16_0 : List IOper := [⟨some 4, .mov (.c (.str (⟨#[]⟩ : ByteArray))), none⟩]
def r16_1 : List IOper := [⟨some 5, .mov (.t 0), none⟩,
  ⟨some 6, .lenS (.t 5), none⟩,
  ⟨some 7, .mov (.t 1), none⟩,
  ⟨some 8, .bin .gtr (.t 6) (.t 7), none⟩]
def r16_2 : List IOper := [⟨some 9, .mov (.t 0), none⟩,
  ⟨some 10, .mov (.t 1), none⟩,
  ⟨some 11, .slcStr (.t 9) none (some (.t 10)), none⟩,
  ⟨some 4, .mov (.t 11), none⟩]
def r16_3 : List IOper := [⟨some 12, .mov (.t 0), none⟩,
  ⟨some 4, .mov (.t 12), none⟩]
def b16 : ICode :=
 (.seq (.reg [(0, false)] r16_0)
 (.seq (.seq (.reg [(0, false), (1, false), (2, false), (3, false)] r16_1)
 (.cond (.t 8) (.seq (.reg [(0, false), (1, false), (2, false), (3, false)] r16_2)
 .ret)
 .skip))
 (.seq (.reg [(0, false), (1, false)] r16_3)
 .ret)))
def f16 : IFunc := { nt := 13, res := [((.t 4), none)], body := b16 }
def ps16 : List Phases := []
def ms16 : List (Option (List Nat)) := [none]
-- chatelaine/code.Read
def r17_0 : List IOper := [⟨some 2, .mov (.c .nilp), none⟩]
def r17_1 : List IOper := [⟨some 3, .mov (.t 0), none⟩,
  ⟨some 4, .build [(.str (⟨#[]⟩ : ByteArray)), (.int .i64 0)] [(0, 1, (.t 3))], none⟩,
  ⟨some 5, .box 2 (.t 4), none⟩,
  ⟨some 2, .mov (.t 5), none⟩]
def b17 : ICode :=
 (.seq (.reg [(0, false)] r17_0)
 (.seq (.reg [(0, false), (1, false), (2, false), (3, false)] r17_1)
 .ret))
def f17 : IFunc := { nt := 6, res := [((.t 2), none)], body := b17 }
def ps17 : List Phases := []
def ms17 : List (Option (List Nat)) := []
-- (*chatelaine/code.Reader).U
def r19_0 : List IOper := [⟨some 2, .mov (.c (.int .u64 0)), none⟩]
def r19_1 : List IOper := [⟨some 10, .mov (.t 0), none⟩,
  ⟨some 11, .callF 63 [(.t 10), (.c (.int .i64 1))], none⟩,
  ⟨some 3, .mov (.t 11), none⟩]
def r19_2 : List IOper := [⟨some 12, .mov (.t 3), none⟩,
  ⟨some 13, .bin .eql (.t 12) (.c (.str (⟨#[]⟩ : ByteArray))), none⟩]
def r19_3 : List IOper := [⟨some 2, .mov (.c (.int .u64 0)), none⟩]
def r19_4 : List IOper := [⟨some 14, .mov (.t 3), none⟩,
  ⟨some 15, .ixStr (.t 14) (.c (.int .i64 0)), none⟩,
  ⟨some 16, .bin .lss (.t 15) (.c (.int .u8 252)), none⟩]
def r19_5 : List IOper := [⟨some 17, .mov (.t 3), none⟩,
  ⟨some 18, .ixStr (.t 17) (.c (.int .i64 0)), none⟩,
  ⟨some 19, .conv .u64 (.t 18), none⟩,
  ⟨some 2, .mov (.t 19), none⟩]
def r19_6 : List IOper := [⟨some 4, .mov (.c (.int .i64 8)), none⟩]
def r19_7 : List IOper := [⟨some 20, .mov (.t 3), none⟩,
  ⟨some 21, .ixStr (.t 20) (.c (.int .i64 0)), none⟩]
def r19_8 : List IOper := [⟨some 23, .bin .eql (.t 21) (.c (.int .u8 252)), none⟩,
  ⟨some 22, .mov (.t 23), none⟩]
def r19_9 : List IOper := [⟨some 4, .mov (.c (.int .i64 2)), none⟩]
def r19_10 : List IOper := [⟨some 25, .bin .eql (.t 21) (.c (.int .u8 253)), none⟩,
  ⟨some 24, .mov (.t 25), none⟩]
def r19_11 : List IOper := [⟨some 4, .mov (.c (.int .i64 4)), none⟩]
def r19_12 : List IOper := [⟨some 27, .bin .eql (.t 21) (.c (.int .u8 255)), none⟩,
  ⟨some 26, .mov (.t 27), none⟩]
def r19_13 : List IOper := [⟨some 28, .mov (.t 0), none⟩,
  ⟨some 29, .callF 32 [(.t 28), (.c (.int .i64 4))], none⟩]
def r19_14 : List IOper := [⟨some 5, .mov (.c (.int .u64 0)), none⟩]
def r19_15 : List IOper := [⟨some 30, .mov (.t 0), none⟩,
  ⟨some 31, .mov (.t 4), none⟩,
  ⟨some 32, .callF 63 [(.t 30), (.t 31)], none⟩,
  ⟨some 33, .s2b (.t 32), none⟩,
  ⟨some 34, .lenL (.t 33), none⟩,
  ⟨some 35, .mov (.c (.int .i64 0)), none⟩]
def r19_16 : List IOper := [⟨some 36, .bin .lss (.t 35) (.t 34), none⟩]
def r19_17 : List IOper := [⟨some 37, .ixS 1 (.t 33) (.t 35), none⟩,
  ⟨some 38, .load none (.t 37), none⟩,
  ⟨some 7, .mov (.t 38), none⟩]
def r19_18 : List IOper := [⟨some 39, .mov (.t 5), none⟩,
  ⟨some 40, .bin .shl (.t 39) (.c (.int .u64 8)), none⟩,
  ⟨some 41, .mov (.t 7), none⟩,
  ⟨some 42, .conv .u64 (.t 41), none⟩,
  ⟨some 43, .bin .or (.t 40) (.t 42), none⟩,
  ⟨some 5, .mov (.t 43), none⟩]
def r19_19 : List IOper := [⟨some 44, .bin .add (.t 35) (.c (.int .i64 1)), none⟩,
  ⟨some 35, .mov (.t 44), none⟩]
def r19_20 : List IOper := [⟨some 46, .mov (.t 5), none⟩,
  ⟨some 47, .callF 64 [(.t 46)], none⟩,
  ⟨some 45, .mov (.t 47), none⟩,
  ⟨some 48, .ext (.t 45) 0, none⟩,
  ⟨some 49, .ext (.t 45) 1, none⟩,
  ⟨some 8, .mov (.t 48), none⟩,
  ⟨some 9, .mov (.t 49), none⟩]
def r19_21 : List IOper := [⟨some 50, .mov (.t 8), none⟩,
  ⟨some 51, .mov (.t 3), none⟩,
  ⟨some 52, .ixStr (.t 51) (.c (.int .i64 0)), none⟩,
  ⟨some 53, .bin .neq (.t 50) (.t 52), none⟩]
def r19_22 : List IOper := [⟨some 54, .mov (.t 0), none⟩,
  ⟨some 55, .callF 32 [(.t 54), (.c (.int .i64 4))], none⟩]
def r19_23 : List IOper := [⟨some 56, .mov (.t 0), none⟩,
  ⟨some 57, .nilck (.t 56), none⟩,
  ⟨some 58, .fld 1 (.t 57), none⟩,
  ⟨some 59, .load none (.t 58), none⟩,
  ⟨some 60, .bin .neq (.t 59) (.c (.int .i64 0)), none⟩]
def r19_24 : List IOper := [⟨some 2, .mov (.c (.int .u64 0)), none⟩]
def r19_25 : List IOper := [⟨some 61, .mov (.t 5), none⟩,
  ⟨some 2, .mov (.t 61), none⟩]
def b19 : ICode :=
 (.seq (.reg [(0, false)] r19_0)
 (.seq (.reg [(0, false), (1, false), (2, false)] r19_1)
 (.seq (.seq (.reg [(0, false), (1, false)] r19_2)
 (.cond (.t 13) (.seq (.reg [(0, false)] r19_3)
 .ret)
 .skip))
 (.seq (.seq (.reg [(0, false), (1, false), (2, false)] r19_4)
 (.cond (.t 16) (.seq (.reg [(0, false), (1, false), (2, false), (3, false)] r19_5)
 .ret)
 .skip))
 (.seq (.reg [(0, false)] r19_6)
 (.seq (.seq (.reg [(0, false), (1, false)] r19_7)
 (.seq (.block 0 (.seq (.reg [(0, false), (1, false)] r19_8)
 (.seq (.cond (.t 22) (.reg [(0, false)] r19_9)
 (.seq (.reg [(0, false), (1, false)] r19_10)
 (.seq (.cond (.t 24) (.reg [(0, false)] r19_11)
 (.seq (.reg [(0, false), (1, false)] r19_12)
 (.seq (.cond (.t 26) (.reg [(0, false), (1, false)] r19_13)
 .skip) (.mask [0, 3, 4])))) (.mask [0, 3, 4])))) (.mask [0, 3, 4])))) (.mask [0, 3, 4])))
 (.seq (.reg [(0, false)] r19_14)
 (.seq (.seq (.reg [(0, false), (1, false), (2, false), (3, false), (4, false), (5, false)] r19_15)
 (.seq (.block 1 (.loop (.seq (.mask [0, 3, 5, 33, 34, 35]) (.seq (.reg [(0, false)] r19_16)
 (.seq (.cond (.t 36) .skip
 (.exit 1))
 (.seq (.seq (.block 2 (.seq (.reg [(0, false), (1, false), (2, false)] r19_17)
 (.reg [(0, false), (1, false), (2, false), (3, false), (4, false), (5, false)] r19_18))) (.mask [0, 3, 5, 33, 34, 35]))
 (.reg [(0, false), (1, false)] r19_19))))))) (.mask [0, 3, 5])))
 (.seq (.seq (.reg [(0, false), (1, false), (2, false), (3, false), (4, false), (5, false), (6, false)] r19_20)
 (.seq (.reg [(0, false), (1, false), (2, false), (3, false)] r19_21)
 (.seq (.cond (.t 53) (.reg [(0, false), (1, false)] r19_22)
 .skip) (.mask [0, 5]))))
 (.seq (.seq (.reg [(0, false), (1, false), (2, false), (3, false), (4, false)] r19_23)
 (.cond (.t 60) (.seq (.reg [(0, false)] r19_24)
 .ret)
 .skip))
 (.seq (.reg [(0, false), (1, false)] r19_25)
 .ret)))))))))))
def f19 : IFunc := { nt := 62, res := [((.t 2), none)], body := b19 }
def ps19 : List Phases := []
def ms19 : List (Option (List Nat)) := [none, none, some [0, 3, 4], some [0, 3, 4], some [0, 3, 4], some [0, 3, 4], some [0, 3, 5, 33, 34, 35], none, some [0, 3, 5, 33, 34, 35], some [0, 3, 5], some [0, 5], none]
-- (*chatelaine/code.Reader).N
def r21_0 : List IOper := [⟨some 4, .mov (.c (.int .i64 0)), none⟩]
def r21_1 : List IOper := [⟨some 6, .mov (.t 0), none⟩,
  ⟨some 7, .callF 19 [(.t 6)], none⟩,
  ⟨some 5, .mov (.t 7), none⟩]
def r21_2 : List IOper := [⟨some 8, .mov (.t 5), none⟩,
  ⟨some 9, .mov (.t 1), none⟩,
  ⟨some 10, .maxi [(.t 9), (.c (.int .i64 0))], none⟩,
  ⟨some 11, .conv .u64 (.t 10), none⟩,
  ⟨some 12, .bin .gtr (.t 8) (.t 11), none⟩]
def r21_3 : List IOper := [⟨some 13, .mov (.t 0), none⟩,
  ⟨some 14, .callF 32 [(.t 13), (.c (.int .i64 6))], none⟩]
def r21_4 : List IOper := [⟨some 4, .mov (.c (.int .i64 0)), none⟩]
def r21_5 : List IOper := [⟨some 15, .mov (.t 5), none⟩,
  ⟨some 16, .conv .i64 (.t 15), none⟩,
  ⟨some 4, .mov (.t 16), none⟩]
def b21 : ICode :=
 (.seq (.reg [(0, false)] r21_0)
 (.seq (.reg [(0, false), (1, false), (2, false)] r21_1)
 (.seq (.seq (.reg [(0, false), (1, false), (2, false), (3, false), (4, false)] r21_2)
 (.cond (.t 12) (.seq (.reg [(0, false), (1, false)] r21_3)
 (.seq (.reg [(0, false)] r21_4)
 .ret))
 .skip))
 (.seq (.reg [(0, false), (1, false), (2, false)] r21_5)
 .ret))))
def f21 : IFunc := { nt := 17, res := [((.t 4), none)], body := b21 }
def ps21 : List Phases := []
def ms21 : List (Option (List Nat)) := [none]
-- (*chatelaine/code.Reader).B
def r23_0 : List IOper := [⟨some 2, .mov (.c (.bool false)), none⟩]
def r23_1 : List IOper := [⟨some 4, .mov (.t 0), none⟩,
  ⟨some 5, .callF 63 [(.t 4), (.c (.int .i64 1))], none⟩,
  ⟨some 3, .mov (.t 5), none⟩]
def r23_2 : List IOper := [⟨some 6, .mov (.t 3), none⟩,
  ⟨some 7, .bin .neq (.t 6) (.c (.str (⟨#[]⟩ : ByteArray))), none⟩,
  ⟨some 8, .mov (.t 7), none⟩,
  ⟨some 9, .mov (.t 3), some (8, true)⟩,
  ⟨some 10, .ixStr (.t 9) (.c (.int .i64 0)), some (8, true)⟩,
  ⟨some 11, .bin .gtr (.t 10) (.c (.int .u8 1)), some (8, true)⟩,
  ⟨some 12, .pick (.t 8) (.t 11) (.c (.bool false)), none⟩]
def r23_3 : List IOper := [⟨some 13, .mov (.t 0), none⟩,
  ⟨some 14, .callF 32 [(.t 13), (.c (.int .i64 4))], none⟩]
def r23_4 : List IOper := [⟨some 15, .mov (.t 3), none⟩,
  ⟨some 16, .bin .eql (.t 15) (.c (.str (⟨#[1]⟩ : ByteArray))), none⟩,
  ⟨some 2, .mov (.t 16), none⟩]
def b23 : ICode :=
 (.seq (.reg [(0, false)] r23_0)
 (.seq (.reg [(0, false), (1, false), (2, false)] r23_1)
 (.seq (.seq (.reg [(0, false), (1, false), (2, false), (3, false), (4, false), (5, false), (6, false)] r23_2)
 (.seq (.cond (.t 12) (.reg [(0, false), (1, false)] r23_3)
 .skip) (.mask [3])))
 (.seq (.reg [(0, false), (1, false), (2, false)] r23_4)
 .ret))))
def f23 : IFunc := { nt := 17, res := [((.t 2), none)], body := b23 }
def ps23 : List Phases := []
def ms23 : List (Option (List Nat)) := [some [3]]
-- (*chatelaine/code.Reader).S
def r25_0 : List IOper := [⟨some 4, .mov (.c (.str (⟨#[]⟩ : ByteArray))), none⟩]
def r25_1 : List IOper := [⟨some 5, .mov (.t 0), none⟩,
  ⟨some 6, .mov (.t 0), none⟩,
  ⟨some 7, .mov (.t 1), none⟩,
  ⟨some 8, .callF 21 [(.t 6), (.t 7)], none⟩,
  ⟨some 9, .callF 63 [(.t 5), (.t 8)], none⟩,
  ⟨some 4, .mov (.t 9), none⟩]
def b25 : ICode :=
 (.seq (.reg [(0, false)] r25_0)
 (.seq (.reg [(0, false), (1, false), (2, false), (3, false), (4, false), (5, false)] r25_1)
 .ret))
def f25 : IFunc := { nt := 10, res := [((.t 4), none)], body := b25 }
def ps25 : List Phases := []
def ms25 : List (Option (List Nat)) := []
-- (*chatelaine/code.Reader).Done
def r29_0 : List IOper := [⟨some 2, .mov (.c (.int .i64 0)), none⟩]
def r29_1 : List IOper := [⟨some 3, .mov (.t 0), none⟩,
  ⟨some 4, .nilck (.t 3), none⟩,
  ⟨some 5, .fld 0 (.t 4), none⟩,
  ⟨some 6, .load none (.t 5), none⟩,
  ⟨some 7, .bin .neq (.t 6) (.c (.str (⟨#[]⟩ : ByteArray))), none⟩]
def r29_2 : List IOper := [⟨some 8, .mov (.t 0), none⟩,
  ⟨some 9, .callF 32 [(.t 8), (.c (.int .i64 4))], none⟩]
def r29_3 : List IOper := [⟨some 10, .mov (.t 0), none⟩,
  ⟨some 11, .nilck (.t 10), none⟩,
  ⟨some 12, .fld 1 (.t 11), none⟩,
  ⟨some 13, .load none (.t 12), none⟩,
  ⟨some 2, .mov (.t 13), none⟩]
def b29 : ICode :=
 (.seq (.reg [(0, false)] r29_0)
 (.seq (.seq (.reg [(0, false), (1, false), (2, false), (3, false), (4, false)] r29_1)
 (.seq (.cond (.t 7) (.reg [(0, false), (1, false)] r29_2)
 .skip) (.mask [0])))
 (.seq (.reg [(0, false), (1, false), (2, false), (3, false), (4, false)] r29_3)
 .ret)))
def f29 : IFunc := { nt := 14, res := [((.t 2), none)], body := b29 }
def ps29 : List Phases := []
def ms29 : List (Option (List Nat)) := [some [0]]
-- (*chatelaine/code.Writer).U
def r30_0 : List IOper := [⟨some 4, .mov (.c .nilp), none⟩]
def r30_1 : List IOper := [⟨some 9, .mov (.t 1), none⟩,
  ⟨some 10, .lenL (.t 9), none⟩,
  ⟨some 11, .mov (.c (.int .i64 0)), none⟩]
def r30_2 : List IOper := [⟨some 12, .bin .lss (.t 11) (.t 10), none⟩]
def r30_3 : List IOper := [⟨some 13, .ixS 1 (.t 9) (.t 11), none⟩,
  ⟨some 14, .load none (.t 13), none⟩,
  ⟨some 6, .mov (.t 14), none⟩]
def r30_4 : List IOper := [⟨some 16, .mov (.t 6), none⟩,
  ⟨some 17, .callF 64 [(.t 16)], none⟩,
  ⟨some 15, .mov (.t 17), none⟩,
  ⟨some 18, .ext (.t 15) 0, none⟩,
  ⟨some 19, .ext (.t 15) 1, none⟩,
  ⟨some 7, .mov (.t 18), none⟩,
  ⟨some 8, .mov (.t 19), none⟩]
def r30_5 : List IOper := [⟨some 20, .mov (.t 0), none⟩,
  ⟨some 21, .mov (.t 0), none⟩,
  ⟨some 22, .nilck (.t 21), none⟩,
  ⟨some 23, .fld 0 (.t 22), none⟩,
  ⟨some 24, .load none (.t 23), none⟩,
  ⟨some 25, .mov (.t 7), none⟩,
  ⟨some 26, .buildS 1 1 [(.int .u8 0)] [(0, (.t 25))], none⟩,
  ⟨some 27, .app 1 1 (.t 24) (.t 26), none⟩,
  ⟨some 28, .nilck (.t 20), none⟩,
  ⟨some 29, .fld 0 (.t 28), none⟩,
  ⟨none, .store 1 (.t 29) (.t 27), none⟩]
def r30_6 : List IOper := [⟨some 30, .mov (.t 0), none⟩,
  ⟨some 31, .mov (.t 6), none⟩,
  ⟨some 32, .mov (.t 8), none⟩,
  ⟨some 33, .callF 65 [(.t 30), (.t 31), (.t 32)], none⟩]
def r30_7 : List IOper := [⟨some 34, .bin .add (.t 11) (.c (.int .i64 1)), none⟩,
  ⟨some 11, .mov (.t 34), none⟩]
def r30_8 : List IOper := [⟨some 35, .mov (.t 0), none⟩,
  ⟨some 4, .mov (.t 35), none⟩]
def b30 : ICode :=
 (.seq (.reg [(0, false)] r30_0)
 (.seq (.seq (.reg [(0, false), (1, false), (2, false)] r30_1)
 (.seq (.block 0 (.loop (.seq (.mask [0, 9, 10, 11]) (.seq (.reg [(0, false)] r30_2)
 (.seq (.cond (.t 12) .skip
 (.exit 0))
 (.seq (.seq (.block 1 (.seq (.reg [(0, false), (1, false), (2, false)] r30_3)
 (.seq (.reg [(0, false), (1, false), (2, false), (3, false), (4, false), (5, false), (6, false)] r30_4)
 (.seq (.reg [(0, false), (1, false), (2, false), (3, false), (4, false), (5, false), (6, false), (7, false), (8, false), (9, false), (10, false)] r30_5)
 (.reg [(0, false), (1, false), (2, false), (3, false)] r30_6))))) (.mask [0, 9, 10, 11]))
 (.reg [(0, false), (1, false)] r30_7))))))) (.mask [0])))
 (.seq (.reg [(0, false), (1, false)] r30_8)
 .ret)))
def f30 : IFunc := { nt := 36, res := [((.t 4), none)], body := b30 }
def ps30 : List Phases := []
def ms30 : List (Option (List Nat)) := [some [0, 9, 10, 11], none, some [0, 9, 10, 11], some [0]]
-- (*chatelaine/code.Writer).Text
def r31_0 : List IOper := [⟨some 2, .mov (.c (.str (⟨#[]⟩ : ByteArray))), none⟩]
def r31_1 : List IOper := [⟨some 3, .mov (.t 0), none⟩,
  ⟨some 4, .nilck (.t 3), none⟩,
  ⟨some 5, .fld 0 (.t 4), none⟩,
  ⟨some 6, .load none (.t 5), none⟩,
  ⟨some 7, .b2s (.t 6), none⟩,
  ⟨some 2, .mov (.t 7), none⟩]
def b31 : ICode :=
 (.seq (.reg [(0, false)] r31_0)
 (.seq (.reg [(0, false), (1, false), (2, false), (3, false), (4, false), (5, false)] r31_1)
 .ret))
def f31 : IFunc := { nt := 8, res := [((.t 2), none)], body := b31 }
def ps31 : List Phases := []
def ms31 : List (Option (List Nat)) := []
-- (*chatelaine/code.Reader).Fail
def r32_0 : List IOper := [⟨some 4, .mov (.t 0), none⟩,
  ⟨some 5, .nilck (.t 4), none⟩,
  ⟨some 6, .fld 1 (.t 5), none⟩,
  ⟨some 7, .load none (.t 6), none⟩,
  ⟨some 8, .bin .eql (.t 7) (.c (.int .i64 0)), none⟩]
def r32_1 : List IOper := [⟨some 9, .mov (.t 0), none⟩,
  ⟨some 10, .mov (.t 1), none⟩,
  ⟨some 11, .nilck (.t 9), none⟩,
  ⟨some 12, .fld 1 (.t 11), none⟩,
  ⟨none, .store 1 (.t 12) (.t 10), none⟩]
def b32 : ICode :=
 (.seq (.reg [(0, false), (1, false), (2, false), (3, false), (4, false)] r32_0)
 (.seq (.cond (.t 8) (.reg [(0, false), (1, false), (2, false), (3, false), (4, false)] r32_1)
 .skip) (.mask [])))
def f32 : IFunc := { nt := 13, res := [], body := b32 }
def ps32 : List Phases := []
def ms32 : List (Option (List Nat)) := [some []]
-- chatelaine/seal.Frame
def r39_0 : List IOper := [⟨some 4, .mov (.c (.str (⟨#[]⟩ : ByteArray))), none⟩]
def r39_1 : List IOper := [⟨some 6, .mov (.t 1), none⟩,
  ⟨some 7, .mov (.t 1), none⟩,
  ⟨some 8, .lenS (.t 7), none⟩,
  ⟨some 9, .mini [(.t 8), (.c (.int .i64 1048576))], none⟩,
  ⟨some 10, .slcStr (.t 6) none (some (.t 9)), none⟩,
  ⟨some 1, .mov (.t 10), none⟩]
def r39_2 : List IOper := [⟨some 11, .mov (.t 0), none⟩,
  ⟨some 12, .maxi [(.t 11), (.c (.int .u8 1))], none⟩,
  ⟨some 13, .buildS 1 1 [(.int .u8 0)] [(0, (.t 12))], none⟩,
  ⟨some 14, .b2s (.t 13), none⟩,
  ⟨some 15, .mov (.t 1), none⟩,
  ⟨some 16, .lenS (.t 15), none⟩,
  ⟨some 17, .conv .u32 (.t 16), none⟩,
  ⟨some 18, .callF 67 [(.t 17), (.c (.int .i64 3))], none⟩,
  ⟨some 19, .bin .add (.t 14) (.t 18), none⟩,
  ⟨some 20, .mov (.t 1), none⟩,
  ⟨some 21, .bin .add (.t 19) (.t 20), none⟩,
  ⟨some 5, .mov (.t 21), none⟩]
def r39_3 : List IOper := [⟨some 22, .mov (.t 5), none⟩,
  ⟨some 23, .mov (.t 5), none⟩,
  ⟨some 24, .buildS 1 1 [(.str (⟨#[]⟩ : ByteArray))] [(0, (.t 23))], none⟩,
  ⟨some 25, .callF 44 [(.t 24)], none⟩,
  ⟨some 26, .callF 67 [(.t 25), (.c (.int .i64 4))], none⟩,
  ⟨some 27, .bin .add (.t 22) (.t 26), none⟩,
  ⟨some 4, .mov (.t 27), none⟩]
def b39 : ICode :=
 (.seq (.reg [(0, false)] r39_0)
 (.seq (.reg [(0, false), (1, false), (2, false), (3, false), (4, false), (5, false)] r39_1)
 (.seq (.reg [(0, false), (1, false), (4, false), (5, false), (6, false), (9, false), (7, false), (2, false), (3, false), (8, false), (10, false), (11, false)] r39_2)
 (.seq (.reg [(0, false), (1, false), (2, false), (3, false), (4, false), (5, false), (6, false)] r39_3)
 .ret))))
def f39 : IFunc := { nt := 28, res := [((.t 4), none)], body := b39 }
def ps39 : List Phases := [⟨[([(0, false), (1, false), (4, false), (5, false), (6, false), (9, false)], 7)], [(2, false), (3, false), (8, false), (10, false), (11, false)]⟩]
def ms39 : List (Option (List Nat)) := []
-- (*chatelaine/code.Writer).N
def r40_0 : List IOper := [⟨some 4, .mov (.c .nilp), none⟩]
def r40_1 : List IOper := [⟨some 7, .mov (.t 1), none⟩,
  ⟨some 8, .lenL (.t 7), none⟩,
  ⟨some 9, .mov (.c (.int .i64 0)), none⟩]
def r40_2 : List IOper := [⟨some 10, .bin .lss (.t 9) (.t 8), none⟩]
def r40_3 : List IOper := [⟨some 11, .ixS 1 (.t 7) (.t 9), none⟩,
  ⟨some 12, .load none (.t 11), none⟩,
  ⟨some 6, .mov (.t 12), none⟩]
def r40_4 : List IOper := [⟨some 13, .mov (.t 0), none⟩,
  ⟨some 14, .mov (.t 6), none⟩,
  ⟨some 15, .maxi [(.t 14), (.c (.int .i64 0))], none⟩,
  ⟨some 16, .conv .u64 (.t 15), none⟩,
  ⟨some 17, .buildS 1 1 [(.int .u64 0)] [(0, (.t 16))], none⟩,
  ⟨some 18, .callF 30 [(.t 13), (.t 17)], none⟩]
def r40_5 : List IOper := [⟨some 19, .bin .add (.t 9) (.c (.int .i64 1)), none⟩,
  ⟨some 9, .mov (.t 19), none⟩]
def r40_6 : List IOper := [⟨some 20, .mov (.t 0), none⟩,
  ⟨some 4, .mov (.t 20), none⟩]
def b40 : ICode :=
 (.seq (.reg [(0, false)] r40_0)
 (.seq (.seq (.reg [(0, false), (1, false), (2, false)] r40_1)
 (.seq (.block 0 (.loop (.seq (.mask [0, 7, 8, 9]) (.seq (.reg [(0, false)] r40_2)
 (.seq (.cond (.t 10) .skip
 (.exit 0))
 (.seq (.seq (.block 1 (.seq (.reg [(0, false), (1, false), (2, false)] r40_3)
 (.reg [(0, false), (1, false), (2, false), (3, false), (4, false), (5, false)] r40_4))) (.mask [0, 7, 8, 9]))
 (.reg [(0, false), (1, false)] r40_5))))))) (.mask [0])))
 (.seq (.reg [(0, false), (1, false)] r40_6)
 .ret)))
def f40 : IFunc := { nt := 21, res := [((.t 4), none)], body := b40 }
def ps40 : List Phases := []
def ms40 : List (Option (List Nat)) := [some [0, 7, 8, 9], none, some [0, 7, 8, 9], some [0]]
-- (*chatelaine/code.Writer).S
def r41_0 : List IOper := [⟨some 4, .mov (.c .nilp), none⟩]
def r41_1 : List IOper := [⟨some 7, .mov (.t 1), none⟩,
  ⟨some 8, .lenL (.t 7), none⟩,
  ⟨some 9, .mov (.c (.int .i64 0)), none⟩]
def r41_2 : List IOper := [⟨some 10, .bin .lss (.t 9) (.t 8), none⟩]
def r41_3 : List IOper := [⟨some 11, .ixS 1 (.t 7) (.t 9), none⟩,
  ⟨some 12, .load none (.t 11), none⟩,
  ⟨some 6, .mov (.t 12), none⟩]
def r41_4 : List IOper := [⟨some 13, .mov (.t 0), none⟩,
  ⟨some 14, .mov (.t 6), none⟩,
  ⟨some 15, .lenS (.t 14), none⟩,
  ⟨some 16, .buildS 1 1 [(.int .i64 0)] [(0, (.t 15))], none⟩,
  ⟨some 17, .callF 40 [(.t 13), (.t 16)], none⟩]
def r41_5 : List IOper := [⟨some 18, .mov (.t 0), none⟩,
  ⟨some 19, .mov (.t 0), none⟩,
  ⟨some 20, .nilck (.t 19), none⟩,
  ⟨some 21, .fld 0 (.t 20), none⟩,
  ⟨some 22, .load none (.t 21), none⟩,
  ⟨some 23, .mov (.t 6), none⟩,
  ⟨some 24, .app 1 1 (.t 22) (.t 23), none⟩,
  ⟨some 25, .nilck (.t 18), none⟩,
  ⟨some 26, .fld 0 (.t 25), none⟩,
  ⟨none, .store 1 (.t 26) (.t 24), none⟩]
def r41_6 : List IOper := [⟨some 27, .bin .add (.t 9) (.c (.int .i64 1)), none⟩,
  ⟨some 9, .mov (.t 27), none⟩]
def r41_7 : List IOper := [⟨some 28, .mov (.t 0), none⟩,
  ⟨some 4, .mov (.t 28), none⟩]
def b41 : ICode :=
 (.seq (.reg [(0, false)] r41_0)
 (.seq (.seq (.reg [(0, false), (1, false), (2, false)] r41_1)
 (.seq (.block 0 (.loop (.seq (.mask [0, 7, 8, 9]) (.seq (.reg [(0, false)] r41_2)
 (.seq (.cond (.t 10) .skip
 (.exit 0))
 (.seq (.seq (.block 1 (.seq (.reg [(0, false), (1, false), (2, false)] r41_3)
 (.seq (.reg [(0, false), (1, false), (2, false), (3, false), (4, false)] r41_4)
 (.reg [(0, false), (1, false), (2, false), (3, false), (4, false), (5, false), (6, false), (7, false), (8, false), (9, false)] r41_5)))) (.mask [0, 7, 8, 9]))
 (.reg [(0, false), (1, false)] r41_6))))))) (.mask [0])))
 (.seq (.reg [(0, false), (1, false)] r41_7)
 .ret)))
def f41 : IFunc := { nt := 29, res := [((.t 4), none)], body := b41 }
def ps41 : List Phases := []
def ms41 : List (Option (List Nat)) := [some [0, 7, 8, 9], none, some [0, 7, 8, 9], some [0]]
-- (*chatelaine/code.Writer).B
def r42_0 : List IOper := [⟨some 4, .mov (.c .nilp), none⟩]
def r42_1 : List IOper := [⟨some 8, .mov (.t 1), none⟩,
  ⟨some 9, .lenL (.t 8), none⟩,
  ⟨some 10, .mov (.c (.int .i64 0)), none⟩]
def r42_2 : List IOper := [⟨some 11, .bin .lss (.t 10) (.t 9), none⟩]
def r42_3 : List IOper := [⟨some 12, .ixS 1 (.t 8) (.t 10), none⟩,
  ⟨some 13, .load none (.t 12), none⟩,
  ⟨some 6, .mov (.t 13), none⟩]
def r42_4 : List IOper := [⟨some 7, .mov (.c (.int .u8 0)), none⟩]
def r42_5 : List IOper := [⟨some 14, .mov (.t 6), none⟩]
def r42_6 : List IOper := [⟨some 7, .mov (.c (.int .u8 1)), none⟩]
def r42_7 : List IOper := [⟨some 15, .mov (.t 0), none⟩,
  ⟨some 16, .mov (.t 0), none⟩,
  ⟨some 17, .nilck (.t 16), none⟩,
  ⟨some 18, .fld 0 (.t 17), none⟩,
  ⟨some 19, .load none (.t 18), none⟩,
  ⟨some 20, .mov (.t 7), none⟩,
  ⟨some 21, .buildS 1 1 [(.int .u8 0)] [(0, (.t 20))], none⟩,
  ⟨some 22, .app 1 1 (.t 19) (.t 21), none⟩,
  ⟨some 23, .nilck (.t 15), none⟩,
  ⟨some 24, .fld 0 (.t 23), none⟩,
  ⟨none, .store 1 (.t 24) (.t 22), none⟩]
def r42_8 : List IOper := [⟨some 25, .bin .add (.t 10) (.c (.int .i64 1)), none⟩,
  ⟨some 10, .mov (.t 25), none⟩]
def r42_9 : List IOper := [⟨some 26, .mov (.t 0), none⟩,
  ⟨some 4, .mov (.t 26), none⟩]
def b42 : ICode :=
 (.seq (.reg [(0, false)] r42_0)
 (.seq (.seq (.reg [(0, false), (1, false), (2, false)] r42_1)
 (.seq (.block 0 (.loop (.seq (.mask [0, 8, 9, 10]) (.seq (.reg [(0, false)] r42_2)
 (.seq (.cond (.t 11) .skip
 (.exit 0))
 (.seq (.seq (.block 1 (.seq (.reg [(0, false), (1, false), (2, false)] r42_3)
 (.seq (.reg [(0, false)] r42_4)
 (.seq (.seq (.reg [(0, false)] r42_5)
 (.seq (.cond (.t 14) (.reg [(0, false)] r42_6)
 .skip) (.mask [0, 7, 8, 9, 10])))
 (.reg [(0, false), (1, false), (2, false), (3, false), (4, false), (5, false), (6, false), (7, false), (8, false), (9, false), (10, false)] r42_7))))) (.mask [0, 8, 9, 10]))
 (.reg [(0, false), (1, false)] r42_8))))))) (.mask [0])))
 (.seq (.reg [(0, false), (1, false)] r42_9)
 .ret)))
def f42 : IFunc := { nt := 27, res := [((.t 4), none)], body := b42 }
def ps42 : List Phases := []
def ms42 : List (Option (List Nat)) := [some [0, 8, 9, 10], none, some [0, 7, 8, 9, 10], some [0, 8, 9, 10], some [0]]
-- chatelaine/seal.Scan
def r43_0 : List IOper := [⟨some 2, .mov (.c .nils), none⟩,
  ⟨some 3, .mov (.c (.int .i64 0)), none⟩]
def r43_1 : List IOper := [⟨some 4, .mov (.c .nils), none⟩]
def r43_2 : List IOper := [⟨some 5, .mov (.c (.int .i64 0)), none⟩]
def r43_3 : List IOper := [⟨some 10, .mov (.t 0), none⟩,
  ⟨some 11, .mov (.t 5), none⟩,
  ⟨some 12, .slcStr (.t 10) (some (.t 11)) none, none⟩,
  ⟨some 13, .callF 68 [(.t 12)], none⟩,
  ⟨some 9, .mov (.t 13), none⟩,
  ⟨some 14, .ext (.t 9) 0, none⟩,
  ⟨some 15, .ext (.t 9) 1, none⟩,
  ⟨some 16, .ext (.t 9) 2, none⟩,
  ⟨some 6, .mov (.t 14), none⟩,
  ⟨some 7, .mov (.t 15), none⟩,
  ⟨some 8, .mov (.t 16), none⟩]
def r43_4 : List IOper := [⟨some 17, .mov (.t 8), none⟩,
  ⟨some 18, .bin .neq (.t 17) (.c (.int .i64 0)), none⟩]
def r43_5 : List IOper := [⟨some 19, .mov (.t 4), none⟩,
  ⟨some 20, .mov (.t 5), none⟩,
  ⟨some 2, .mov (.t 19), none⟩,
  ⟨some 3, .mov (.t 20), none⟩]
def r43_6 : List IOper := [⟨some 21, .mov (.t 4), none⟩,
  ⟨some 22, .mov (.t 6), none⟩,
  ⟨some 23, .mov (.t 7), none⟩,
  ⟨some 24, .build [(.int .u8 0), (.str (⟨#[]⟩ : ByteArray))] [(0, 1, (.t 22)), (1, 1, (.t 23))], none⟩,
  ⟨some 25, .buildS 2 1 [(.int .u8 0), (.str (⟨#[]⟩ : ByteArray))] [(0, (.t 24))], none⟩,
  ⟨some 26, .app 2 24 (.t 21) (.t 25), none⟩,
  ⟨some 4, .mov (.t 26), none⟩]
def r43_7 : List IOper := [⟨some 27, .mov (.t 5), none⟩,
  ⟨some 28, .mov (.t 7), none⟩,
  ⟨some 29, .lenS (.t 28), none⟩,
  ⟨some 30, .bin .add (.t 29) (.c (.int .i64 8)), none⟩,
  ⟨some 31, .bin .add (.t 27) (.t 30), none⟩,
  ⟨some 5, .mov (.t 31), none⟩]
def b43 : ICode :=
 (.seq (.reg [(0, false), (1, false)] r43_0)
 (.seq (.reg [(0, false)] r43_1)
 (.seq (.reg [(0, false)] r43_2)
 (.block 0 (.loop (.seq (.mask [0, 4, 5]) (.seq (.block 1 (.seq (.reg [(0, false), (1, false), (2, false), (3, false), (4, false), (5, false), (6, false), (7, false), (8, false), (9, false), (10, false)] r43_3)
 (.seq (.seq (.reg [(0, false), (1, false)] r43_4)
 (.cond (.t 18) (.seq (.reg [(0, false), (1, false), (2, false), (3, false)] r43_5)
 .ret)
 .skip))
 (.seq (.reg [(0, false), (1, false), (2, false), (3, false), (4, false), (5, false), (6, false)] r43_6)
 (.reg [(0, false), (1, false), (2, false), (3, false), (4, false), (5, false)] r43_7))))) (.mask [0, 4, 5]))))))))
def f43 : IFunc := { nt := 32, res := [((.t 2), none), ((.t 3), none)], body := b43 }
def ps43 : List Phases := []
def ms43 : List (Option (List Nat)) := [some [0, 4, 5], none, some [0, 4, 5], none]
-- chatelaine/seal.Sum
def r44_0 : List IOper := [⟨some 2, .mov (.c (.int .u32 0)), none⟩]
def r44_1 : List IOper := [⟨some 3, .mov (.c (.int .u32 4294967295)), none⟩]
def r44_2 : List IOper := [⟨some 7, .mov (.t 0), none⟩,
  ⟨some 8, .lenL (.t 7), none⟩,
  ⟨some 9, .mov (.c (.int .i64 0)), none⟩]
def r44_3 : List IOper := [⟨some 10, .bin .lss (.t 9) (.t 8), none⟩]
def r44_4 : List IOper := [⟨some 11, .ixS 1 (.t 7) (.t 9), none⟩,
  ⟨some 12, .load none (.t 11), none⟩,
  ⟨some 5, .mov (.t 12), none⟩]
def r44_5 : List IOper := [⟨some 13, .mov (.t 5), none⟩,
  ⟨some 14, .lenS (.t 13), none⟩,
  ⟨some 15, .mov (.c (.int .i64 0)), none⟩]
def r44_6 : List IOper := [⟨some 16, .bin .lss (.t 15) (.t 14), none⟩]
def r44_7 : List IOper := [⟨some 17, .mov (.t 15), none⟩,
  ⟨some 6, .mov (.t 17), none⟩]
def r44_8 : List IOper := [⟨some 18, .mov (.t 3), none⟩,
  ⟨some 19, .mov (.t 5), none⟩,
  ⟨some 20, .mov (.t 6), none⟩,
  ⟨some 21, .ixStr (.t 19) (.t 20), none⟩,
  ⟨some 22, .callF 69 [(.t 18), (.t 21)], none⟩,
  ⟨some 3, .mov (.t 22), none⟩]
def r44_9 : List IOper := [⟨some 23, .bin .add (.t 15) (.c (.int .i64 1)), none⟩,
  ⟨some 15, .mov (.t 23), none⟩]
def r44_10 : List IOper := [⟨some 24, .bin .add (.t 9) (.c (.int .i64 1)), none⟩,
  ⟨some 9, .mov (.t 24), none⟩]
def r44_11 : List IOper := [⟨some 25, .mov (.t 3), none⟩,
  ⟨some 26, .un .xor (.t 25), none⟩,
  ⟨some 2, .mov (.t 26), none⟩]
def b44 : ICode :=
 (.seq (.reg [(0, false)] r44_0)
 (.seq (.reg [(0, false)] r44_1)
 (.seq (.seq (.reg [(0, false), (1, false), (2, false)] r44_2)
 (.seq (.block 0 (.loop (.seq (.mask [3, 7, 8, 9]) (.seq (.reg [(0, false)] r44_3)
 (.seq (.cond (.t 10) .skip
 (.exit 0))
 (.seq (.seq (.block 1 (.seq (.reg [(0, false), (1, false), (2, false)] r44_4)
 (.seq (.reg [(0, false), (1, false), (2, false)] r44_5)
 (.seq (.block 2 (.loop (.seq (.mask [3, 5, 7, 8, 9, 14, 15]) (.seq (.reg [(0, false)] r44_6)
 (.seq (.cond (.t 16) .skip
 (.exit 2))
 (.seq (.seq (.block 3 (.seq (.reg [(0, false), (1, false)] r44_7)
 (.reg [(0, false), (1, false), (2, false), (3, false), (4, false), (5, false)] r44_8))) (.mask [3, 5, 7, 8, 9, 14, 15]))
 (.reg [(0, false), (1, false)] r44_9))))))) (.mask [3, 7, 8, 9]))))) (.mask [3, 7, 8, 9]))
 (.reg [(0, false), (1, false)] r44_10))))))) (.mask [3])))
 (.seq (.reg [(0, false), (1, false), (2, false)] r44_11)
 .ret))))
def f44 : IFunc := { nt := 27, res := [((.t 2), none)], body := b44 }
def ps44 : List Phases := []
def ms44 : List (Option (List Nat)) := [some [3, 7, 8, 9], none, some [3, 5, 7, 8, 9, 14, 15], none, some [3, 5, 7, 8, 9, 14, 15], some [3, 7, 8, 9], some [3, 7, 8, 9], some [3]]
-- (*chatelaine/code.Reader).take
def r63_0 : List IOper := [⟨some 4, .mov (.c (.str (⟨#[]⟩ : ByteArray))), none⟩]
def r63_1 : List IOper := [⟨some 6, .mov (.t 1), none⟩,
  ⟨some 7, .mov (.t 0), none⟩,
  ⟨some 8, .nilck (.t 7), none⟩,
  ⟨some 9, .fld 0 (.t 8), none⟩,
  ⟨some 10, .load none (.t 9), none⟩,
  ⟨some 11, .lenS (.t 10), none⟩,
  ⟨some 12, .bin .gtr (.t 6) (.t 11), none⟩]
def r63_2 : List IOper := [⟨some 13, .mov (.t 0), none⟩,
  ⟨some 14, .callF 32 [(.t 13), (.c (.int .i64 3))], none⟩]
def r63_3 : List IOper := [⟨some 15, .mov (.t 0), none⟩,
  ⟨some 16, .nilck (.t 15), none⟩,
  ⟨some 17, .fld 1 (.t 16), none⟩,
  ⟨some 18, .load none (.t 17), none⟩,
  ⟨some 19, .bin .neq (.t 18) (.c (.int .i64 0)), none⟩]
def r63_4 : List IOper := [⟨some 4, .mov (.c (.str (⟨#[]⟩ : ByteArray))), none⟩]
def r63_5 : List IOper := [⟨some 20, .mov (.t 0), none⟩,
  ⟨some 21, .nilck (.t 20), none⟩,
  ⟨some 22, .fld 0 (.t 21), none⟩,
  ⟨some 23, .load none (.t 22), none⟩,
  ⟨some 24, .mov (.t 1), none⟩,
  ⟨some 25, .slcStr (.t 23) none (some (.t 24)), none⟩,
  ⟨some 5, .mov (.t 25), none⟩]
def r63_6 : List IOper := [⟨some 26, .mov (.t 0), none⟩,
  ⟨some 27, .mov (.t 0), none⟩,
  ⟨some 28, .nilck (.t 27), none⟩,
  ⟨some 29, .fld 0 (.t 28), none⟩,
  ⟨some 30, .load none (.t 29), none⟩,
  ⟨some 31, .mov (.t 1), none⟩,
  ⟨some 32, .slcStr (.t 30) (some (.t 31)) none, none⟩,
  ⟨some 33, .nilck (.t 26), none⟩,
  ⟨some 34, .fld 0 (.t 33), none⟩,
  ⟨none, .store 1 (.t 34) (.t 32), none⟩]
def r63_7 : List IOper := [⟨some 35, .mov (.t 5), none⟩,
  ⟨some 4, .mov (.t 35), none⟩]
def b63 : ICode :=
 (.seq (.reg [(0, false)] r63_0)
 (.seq (.seq (.reg [(0, false), (1, false), (2, false), (3, false), (4, false), (5, false), (6, false)] r63_1)
 (.seq (.cond (.t 12) (.reg [(0, false), (1, false)] r63_2)
 .skip) (.mask [0, 1])))
 (.seq (.seq (.reg [(0, false), (1, false), (2, false), (3, false), (4, false)] r63_3)
 (.cond (.t 19) (.seq (.reg [(0, false)] r63_4)
 .ret)
 .skip))
 (.seq (.reg [(0, false), (1, false), (2, false), (3, false), (4, false), (5, false), (6, false)] r63_5)
 (.seq (.reg [(0, false), (1, false), (2, false), (3, false), (4, false), (5, false), (6, false), (7, false), (8, false), (9, false)] r63_6)
 (.seq (.reg [(0, false), (1, false)] r63_7)
 .ret))))))
def f63 : IFunc := { nt := 36, res := [((.t 4), none)], body := b63 }
def ps63 : List Phases := []
def ms63 : List (Option (List Nat)) := [some [0, 1], none]
-- chatelaine/code.head
def r64_0 : List IOper := [⟨some 2, .mov (.c (.int .u8 0)), none⟩,
  ⟨some 3, .mov (.c (.int .i64 0)), none⟩]
def r64_1 : List IOper := [⟨some 5, .mov (.t 0), none⟩,
  ⟨some 6, .bin .lss (.t 5) (.c (.int .u64 252)), none⟩,
  ⟨some 4, .mov (.t 6), none⟩]
def r64_2 : List IOper := [⟨some 7, .mov (.t 0), none⟩,
  ⟨some 8, .conv .u8 (.t 7), none⟩,
  ⟨some 2, .mov (.t 8), none⟩,
  ⟨some 3, .mov (.c (.int .i64 0)), none⟩]
def r64_3 : List IOper := [⟨some 10, .mov (.t 0), none⟩,
  ⟨some 11, .bin .lss (.t 10) (.c (.int .u64 65536)), none⟩,
  ⟨some 9, .mov (.t 11), none⟩]
def r64_4 : List IOper := [⟨some 2, .mov (.c (.int .u8 252)), none⟩,
  ⟨some 3, .mov (.c (.int .i64 2)), none⟩]
def r64_5 : List IOper := [⟨some 13, .mov (.t 0), none⟩,
  ⟨some 14, .bin .lss (.t 13) (.c (.int .u64 4294967296)), none⟩,
  ⟨some 12, .mov (.t 14), none⟩]
def r64_6 : List IOper := [⟨some 2, .mov (.c (.int .u8 253)), none⟩,
  ⟨some 3, .mov (.c (.int .i64 4)), none⟩]
def r64_7 : List IOper := [⟨some 2, .mov (.c (.int .u8 254)), none⟩,
  ⟨some 3, .mov (.c (.int .i64 8)), none⟩]
def b64 : ICode :=
 (.seq (.reg [(0, false), (1, false)] r64_0)
 (.seq (.seq (.block 0 (.seq (.reg [(0, false), (1, false), (2, false)] r64_1)
 (.cond (.t 4) (.seq (.reg [(0, false), (1, false), (2, false), (3, false)] r64_2)
 .ret)
 (.seq (.reg [(0, false), (1, false), (2, false)] r64_3)
 (.cond (.t 9) (.seq (.reg [(0, false), (1, false)] r64_4)
 .ret)
 (.seq (.reg [(0, false), (1, false), (2, false)] r64_5)
 (.cond (.t 12) (.seq (.reg [(0, false), (1, false)] r64_6)
 .ret)
 .skip))))))) (.mask []))
 (.seq (.reg [(0, false), (1, false)] r64_7)
 .ret)))
def f64 : IFunc := { nt := 15, res := [((.t 2), none), ((.t 3), none)], body := b64 }
def ps64 : List Phases := []
def ms64 : List (Option (List Nat)) := [none, none, none, some []]
-- (*chatelaine/code.Writer).wide
def r65_0 : List IOper := [⟨some 7, .mov (.t 2), none⟩,
  ⟨some 8, .bin .sub (.t 7) (.c (.int .i64 1)), none⟩,
  ⟨some 6, .mov (.t 8), none⟩]
def r65_1 : List IOper := [⟨some 9, .mov (.t 6), none⟩,
  ⟨some 10, .bin .geq (.t 9) (.c (.int .i64 0)), none⟩]
def r65_2 : List IOper := [⟨some 13, .mov (.t 0), none⟩,
  ⟨some 14, .mov (.t 0), none⟩,
  ⟨some 15, .nilck (.t 14), none⟩,
  ⟨some 16, .fld 0 (.t 15), none⟩,
  ⟨some 17, .load none (.t 16), none⟩,
  ⟨some 18, .mov (.t 1), none⟩,
  ⟨some 19, .mov (.t 6), none⟩,
  ⟨some 20, .bin .mul (.c (.int .i64 8)) (.t 19), none⟩,
  ⟨some 21, .bin .shr (.t 18) (.t 20), none⟩,
  ⟨some 22, .conv .u8 (.t 21), none⟩,
  ⟨some 23, .buildS 1 1 [(.int .u8 0)] [(0, (.t 22))], none⟩,
  ⟨some 24, .app 1 1 (.t 17) (.t 23), none⟩,
  ⟨some 25, .nilck (.t 13), none⟩,
  ⟨some 26, .fld 0 (.t 25), none⟩,
  ⟨none, .store 1 (.t 26) (.t 24), none⟩]
def r65_3 : List IOper := [⟨some 11, .mov (.t 6), none⟩,
  ⟨some 12, .bin .sub (.t 11) (.c (.int .i64 1)), none⟩,
  ⟨some 6, .mov (.t 12), none⟩]
def b65 : ICode :=
 (.seq (.reg [(0, false), (1, false), (2, false)] r65_0)
 (.seq (.block 0 (.loop (.seq (.mask [0, 1, 6]) (.seq (.seq (.reg [(0, false), (1, false)] r65_1)
 (.cond (.t 10) .skip
 (.exit 0)))
 (.seq (.seq (.block 1 (.reg [(0, false), (1, false), (2, false), (3, false), (4, false), (5, false), (6, false), (7, false), (8, false), (9, false), (10, false), (11, false), (12, false), (13, false), (14, false)] r65_2)) (.mask [0, 1, 6]))
 (.reg [(0, false), (1, false), (2, false)] r65_3)))))) (.mask [])))
def f65 : IFunc := { nt := 27, res := [], body := b65 }
def ps65 : List Phases := [⟨[([(0, false), (1, false), (2, false), (3, false), (4, false), (5, false), (6, false), (7, false), (8, false), (9, false), (10, false)], 11), ([(12, false), (13, false)], 14)], []⟩]
def ms65 : List (Option (List Nat)) := [some [0, 1, 6], none, some [0, 1, 6], some []]
-- chatelaine/seal.digits
def r67_0 : List IOper := [⟨some 4, .mov (.c (.str (⟨#[]⟩ : ByteArray))), none⟩]
def r67_1 : List IOper := [⟨some 7, .mov (.t 1), none⟩,
  ⟨some 8, .mkS 1 1 [(.int .u8 0)] (.t 7) (.t 7), none⟩,
  ⟨some 5, .mov (.t 8), none⟩]
def r67_2 : List IOper := [⟨some 9, .mov (.t 5), none⟩,
  ⟨some 10, .lenL (.t 9), none⟩,
  ⟨some 11, .mov (.c (.int .i64 0)), none⟩]
def r67_3 : List IOper := [⟨some 12, .bin .lss (.t 11) (.t 10), none⟩]
def r67_4 : List IOper := [⟨some 13, .mov (.t 11), none⟩,
  ⟨some 6, .mov (.t 13), none⟩]
def r67_5 : List IOper := [⟨some 14, .mov (.t 5), none⟩,
  ⟨some 15, .mov (.t 1), none⟩,
  ⟨some 16, .bin .sub (.t 15) (.c (.int .i64 1)), none⟩,
  ⟨some 17, .mov (.t 6), none⟩,
  ⟨some 18, .bin .sub (.t 16) (.t 17), none⟩,
  ⟨some 19, .mov (.t 0), none⟩,
  ⟨some 20, .mov (.t 6), none⟩,
  ⟨some 21, .bin .mul (.c (.int .i64 8)) (.t 20), none⟩,
  ⟨some 22, .bin .shr (.t 19) (.t 21), none⟩,
  ⟨some 23, .conv .u8 (.t 22), none⟩,
  ⟨some 24, .ixS 1 (.t 14) (.t 18), none⟩,
  ⟨none, .store 1 (.t 24) (.t 23), none⟩]
def r67_6 : List IOper := [⟨some 25, .bin .add (.t 11) (.c (.int .i64 1)), none⟩,
  ⟨some 11, .mov (.t 25), none⟩]
def r67_7 : List IOper := [⟨some 26, .mov (.t 5), none⟩,
  ⟨some 27, .b2s (.t 26), none⟩,
  ⟨some 4, .mov (.t 27), none⟩]
def b67 : ICode :=
 (.seq (.reg [(0, false)] r67_0)
 (.seq (.reg [(0, false), (1, false), (2, false)] r67_1)
 (.seq (.seq (.reg [(0, false), (1, false), (2, false)] r67_2)
 (.seq (.block 0 (.loop (.seq (.mask [0, 1, 5, 10, 11]) (.seq (.reg [(0, false)] r67_3)
 (.seq (.cond (.t 12) .skip
 (.exit 0))
 (.seq (.seq (.block 1 (.seq (.reg [(0, false), (1, false)] r67_4)
 (.reg [(0, false), (1, false), (2, false), (3, false), (4, false), (5, false), (6, false), (7, false), (8, false), (9, false), (10, false), (11, false)] r67_5))) (.mask [0, 1, 5, 10, 11]))
 (.reg [(0, false), (1, false)] r67_6))))))) (.mask [5])))
 (.seq (.reg [(0, false), (1, false), (2, false)] r67_7)
 .ret))))
def f67 : IFunc := { nt := 28, res := [((.t 4), none)], body := b67 }
def ps67 : List Phases := []
def ms67 : List (Option (List Nat)) := [some [0, 1, 5, 10, 11], none, some [0, 1, 5, 10, 11], some [5]]
-- chatelaine/seal.Open
def r68_0 : List IOper := [⟨some 2, .mov (.c (.int .u8 0)), none⟩,
  ⟨some 3, .mov (.c (.str (⟨#[]⟩ : ByteArray))), none⟩,
  ⟨some 4, .mov (.c (.int .i64 0)), none⟩]
def r68_1 : List IOper := [⟨some 6, .mov (.t 0), none⟩,
  ⟨some 7, .lenS (.t 6), none⟩,
  ⟨some 8, .bin .lss (.t 7) (.c (.int .i64 4)), none⟩]
def r68_2 : List IOper := [⟨some 2, .mov (.c (.int .u8 0)), none⟩,
  ⟨some 3, .mov (.c (.str (⟨#[]⟩ : ByteArray))), none⟩,
  ⟨some 4, .mov (.c (.int .i64 3)), none⟩]
def r68_3 : List IOper := [⟨some 9, .mov (.t 0), none⟩,
  ⟨some 10, .slcStr (.t 9) (some (.c (.int .i64 1))) (some (.c (.int .i64 4))), none⟩,
  ⟨some 11, .callF 81 [(.t 10)], none⟩,
  ⟨some 12, .conv .i64 (.t 11), none⟩,
  ⟨some 5, .mov (.t 12), none⟩]
def r68_4 : List IOper := [⟨some 14, .mov (.t 0), none⟩,
  ⟨some 15, .ixStr (.t 14) (.c (.int .i64 0)), none⟩,
  ⟨some 16, .bin .eql (.t 15) (.c (.int .u8 0)), none⟩,
  ⟨some 13, .mov (.t 16), none⟩]
def r68_5 : List IOper := [⟨some 2, .mov (.c (.int .u8 0)), none⟩,
  ⟨some 3, .mov (.c (.str (⟨#[]⟩ : ByteArray))), none⟩,
  ⟨some 4, .mov (.c (.int .i64 4)), none⟩]
def r68_6 : List IOper := [⟨some 18, .mov (.t 5), none⟩,
  ⟨some 19, .bin .gtr (.t 18) (.c (.int .i64 1048576)), none⟩,
  ⟨some 17, .mov (.t 19), none⟩]
def r68_7 : List IOper := [⟨some 2, .mov (.c (.int .u8 0)), none⟩,
  ⟨some 3, .mov (.c (.str (⟨#[]⟩ : ByteArray))), none⟩,
  ⟨some 4, .mov (.c (.int .i64 6)), none⟩]
def r68_8 : List IOper := [⟨some 21, .mov (.t 5), none⟩,
  ⟨some 22, .bin .add (.t 21) (.c (.int .i64 8)), none⟩,
  ⟨some 23, .mov (.t 0), none⟩,
  ⟨some 24, .lenS (.t 23), none⟩,
  ⟨some 25, .bin .gtr (.t 22) (.t 24), none⟩,
  ⟨some 20, .mov (.t 25), none⟩]
def r68_9 : List IOper := [⟨some 2, .mov (.c (.int .u8 0)), none⟩,
  ⟨some 3, .mov (.c (.str (⟨#[]⟩ : ByteArray))), none⟩,
  ⟨some 4, .mov (.c (.int .i64 3)), none⟩]
def r68_10 : List IOper := [⟨some 27, .mov (.t 0), none⟩,
  ⟨some 28, .mov (.t 5), none⟩,
  ⟨some 29, .bin .add (.c (.int .i64 4)) (.t 28), none⟩,
  ⟨some 30, .slcStr (.t 27) none (some (.t 29)), none⟩,
  ⟨some 31, .buildS 1 1 [(.str (⟨#[]⟩ : ByteArray))] [(0, (.t 30))], none⟩,
  ⟨some 32, .callF 44 [(.t 31)], none⟩,
  ⟨some 33, .mov (.t 0), none⟩,
  ⟨some 34, .mov (.t 5), none⟩,
  ⟨some 35, .bin .add (.c (.int .i64 4)) (.t 34), none⟩,
  ⟨some 36, .mov (.t 5), none⟩,
  ⟨some 37, .bin .add (.t 36) (.c (.int .i64 8)), none⟩,
  ⟨some 38, .slcStr (.t 33) (some (.t 35)) (some (.t 37)), none⟩,
  ⟨some 39, .callF 81 [(.t 38)], none⟩,
  ⟨some 40, .bin .neq (.t 32) (.t 39), none⟩,
  ⟨some 26, .mov (.t 40), none⟩]
def r68_11 : List IOper := [⟨some 2, .mov (.c (.int .u8 0)), none⟩,
  ⟨some 3, .mov (.c (.str (⟨#[]⟩ : ByteArray))), none⟩,
  ⟨some 4, .mov (.c (.int .i64 5)), none⟩]
def r68_12 : List IOper := [⟨some 41, .mov (.t 0), none⟩,
  ⟨some 42, .ixStr (.t 41) (.c (.int .i64 0)), none⟩,
  ⟨some 43, .mov (.t 0), none⟩,
  ⟨some 44, .mov (.t 5), none⟩,
  ⟨some 45, .bin .add (.c (.int .i64 4)) (.t 44), none⟩,
  ⟨some 46, .slcStr (.t 43) (some (.c (.int .i64 4))) (some (.t 45)), none⟩,
  ⟨some 2, .mov (.t 42), none⟩,
  ⟨some 3, .mov (.t 46), none⟩,
  ⟨some 4, .mov (.c (.int .i64 0)), none⟩]
def b68 : ICode :=
 (.seq (.reg [(0, false), (1, false), (2, false)] r68_0)
 (.seq (.seq (.reg [(0, false), (1, false), (2, false)] r68_1)
 (.cond (.t 8) (.seq (.reg [(0, false), (1, false), (2, false)] r68_2)
 .ret)
 .skip))
 (.seq (.reg [(0, false), (1, false), (2, false), (3, false), (4, false)] r68_3)
 (.seq (.seq (.block 0 (.seq (.reg [(0, false), (1, false), (2, false), (3, false)] r68_4)
 (.cond (.t 13) (.seq (.reg [(0, false), (1, false), (2, false)] r68_5)
 .ret)
 (.seq (.reg [(0, false), (1, false), (2, false)] r68_6)
 (.cond (.t 17) (.seq (.reg [(0, false), (1, false), (2, false)] r68_7)
 .ret)
 (.seq (.reg [(0, false), (1, false), (2, false), (3, false), (4, false), (5, false)] r68_8)
 (.cond (.t 20) (.seq (.reg [(0, false), (1, false), (2, false)] r68_9)
 .ret)
 (.seq (.reg [(0, false), (1, false), (2, false), (3, false), (6, false), (7, false), (8, false), (9, false), (10, false), (11, false), (4, false), (5, false), (12, false), (13, false), (14, false)] r68_10)
 (.cond (.t 26) (.seq (.reg [(0, false), (1, false), (2, false)] r68_11)
 .ret)
 .skip))))))))) (.mask [0, 5]))
 (.seq (.reg [(0, false), (1, false), (2, false), (3, false), (4, false), (5, false), (6, false), (7, false), (8, false)] r68_12)
 .ret)))))
def f68 : IFunc := { nt := 47, res := [((.t 2), none), ((.t 3), none), ((.t 4), none)], body := b68 }
def ps68 : List Phases := [⟨[([(0, false), (1, false), (2, false), (3, false), (6, false), (7, false), (8, false), (9, false), (10, false), (11, false), (4, false)], 5), ([], 12)], [(13, false), (14, false)]⟩, ⟨[], [(0, false), (1, false), (2, false), (3, false), (4, false), (5, false), (6, false), (7, false), (8, false)]⟩]
def ms68 : List (Option (List Nat)) := [none, none, none, none, none, some [0, 5]]
-- chatelaine/seal.more
def r69_0 : List IOper := [⟨some 4, .mov (.c (.int .u32 0)), none⟩]
def r69_1 : List IOper := [⟨some 6, .mov (.t 0), none⟩,
  ⟨some 7, .mov (.t 1), none⟩,
  ⟨some 8, .conv .u32 (.t 7), none⟩,
  ⟨some 9, .bin .xor (.t 6) (.t 8), none⟩,
  ⟨some 0, .mov (.t 9), none⟩]
def r69_2 : List IOper := [⟨some 10, .mov (.c (.int .i64 0)), none⟩]
def r69_3 : List IOper := [⟨some 11, .bin .lss (.t 10) (.c (.int .i64 8)), none⟩]
def r69_4 : List IOper := [⟨some 12, .mov (.t 0), none⟩,
  ⟨some 13, .bin .and (.t 12) (.c (.int .u32 1)), none⟩,
  ⟨some 5, .mov (.t 13), none⟩]
def r69_5 : List IOper := [⟨some 14, .mov (.t 0), none⟩,
  ⟨some 15, .bin .shr (.t 14) (.c (.int .u64 1)), none⟩,
  ⟨some 0, .mov (.t 15), none⟩]
def r69_6 : List IOper := [⟨some 16, .mov (.t 5), none⟩,
  ⟨some 17, .bin .eql (.t 16) (.c (.int .u32 1)), none⟩]
def r69_7 : List IOper := [⟨some 18, .mov (.t 0), none⟩,
  ⟨some 19, .bin .xor (.t 18) (.c (.int .u32 3988292384)), none⟩,
  ⟨some 0, .mov (.t 19), none⟩]
def r69_8 : List IOper := [⟨some 20, .bin .add (.t 10) (.c (.int .i64 1)), none⟩,
  ⟨some 10, .mov (.t 20), none⟩]
def r69_9 : List IOper := [⟨some 21, .mov (.t 0), none⟩,
  ⟨some 4, .mov (.t 21), none⟩]
def b69 : ICode :=
 (.seq (.reg [(0, false)] r69_0)
 (.seq (.reg [(0, false), (1, false), (2, false), (3, false), (4, false)] r69_1)
 (.seq (.seq (.reg [(0, false)] r69_2)
 (.seq (.block 0 (.loop (.seq (.mask [0, 10]) (.seq (.reg [(0, false)] r69_3)
 (.seq (.cond (.t 11) .skip
 (.exit 0))
 (.seq (.seq (.block 1 (.seq (.reg [(0, false), (1, false), (2, false)] r69_4)
 (.seq (.reg [(0, false), (1, false), (2, false)] r69_5)
 (.seq (.reg [(0, false), (1, false)] r69_6)
 (.seq (.cond (.t 17) (.reg [(0, false), (1, false), (2, false)] r69_7)
 .skip) (.mask [0, 10])))))) (.mask [0, 10]))
 (.reg [(0, false), (1, false)] r69_8))))))) (.mask [0])))
 (.seq (.reg [(0, false), (1, false)] r69_9)
 .ret))))
def f69 : IFunc := { nt := 22, res := [((.t 4), none)], body := b69 }
def ps69 : List Phases := []
def ms69 : List (Option (List Nat)) := [some [0, 10], none, some [0, 10], some [0, 10], some [0]]
-- chatelaine/seal.number
def r81_0 : List IOper := [⟨some 2, .mov (.c (.int .u32 0)), none⟩]
def r81_1 : List IOper := [⟨some 3, .mov (.c (.int .u32 0)), none⟩]
def r81_2 : List IOper := [⟨some 5, .mov (.t 0), none⟩,
  ⟨some 6, .lenS (.t 5), none⟩,
  ⟨some 7, .mov (.c (.int .i64 0)), none⟩]
def r81_3 : List IOper := [⟨some 8, .bin .lss (.t 7) (.t 6), none⟩]
def r81_4 : List IOper := [⟨some 9, .mov (.t 7), none⟩,
  ⟨some 4, .mov (.t 9), none⟩]
def r81_5 : List IOper := [⟨some 10, .mov (.t 3), none⟩,
  ⟨some 11, .bin .shl (.t 10) (.c (.int .u64 8)), none⟩,
  ⟨some 12, .mov (.t 0), none⟩,
  ⟨some 13, .mov (.t 4), none⟩,
  ⟨some 14, .ixStr (.t 12) (.t 13), none⟩,
  ⟨some 15, .conv .u32 (.t 14), none⟩,
  ⟨some 16, .bin .or (.t 11) (.t 15), none⟩,
  ⟨some 3, .mov (.t 16), none⟩]
def r81_6 : List IOper := [⟨some 17, .bin .add (.t 7) (.c (.int .i64 1)), none⟩,
  ⟨some 7, .mov (.t 17), none⟩]
def r81_7 : List IOper := [⟨some 18, .mov (.t 3), none⟩,
  ⟨some 2, .mov (.t 18), none⟩]
def b81 : ICode :=
 (.seq (.reg [(0, false)] r81_0)
 (.seq (.reg [(0, false)] r81_1)
 (.seq (.seq (.reg [(0, false), (1, false), (2, false)] r81_2)
 (.seq (.block 0 (.loop (.seq (.mask [0, 3, 6, 7]) (.seq (.reg [(0, false)] r81_3)
 (.seq (.cond (.t 8) .skip
 (.exit 0))
 (.seq (.seq (.block 1 (.seq (.reg [(0, false), (1, false)] r81_4)
 (.reg [(0, false), (1, false), (2, false), (3, false), (4, false), (5, false), (6, false), (7, false)] r81_5))) (.mask [0, 3, 6, 7]))
 (.reg [(0, false), (1, false)] r81_6))))))) (.mask [3])))
 (.seq (.reg [(0, false), (1, false)] r81_7)
 .ret))))
def f81 : IFunc := { nt := 19, res := [((.t 2), none)], body := b81 }
def ps81 : List Phases := []
def ms81 : List (Option (List Nat)) := [some [0, 3, 6, 7], none, some [0, 3, 6, 7], some [3]]
theorem ok8 : rfunc Try.prog Try.f8 ps8 ms8 = some f8 := by kernel_rfl
theorem ok16 : rfunc Try.prog Try.f16 ps16 ms16 = some f16 := by kernel_rfl
theorem ok17 : rfunc Try.prog Try.f17 ps17 ms17 = some f17 := by kernel_rfl
theorem ok19 : rfunc Try.prog Try.f19 ps19 ms19 = some f19 := by kernel_rfl
theorem ok21 : rfunc Try.prog Try.f21 ps21 ms21 = some f21 := by kernel_rfl
theorem ok23 : rfunc Try.prog Try.f23 ps23 ms23 = some f23 := by kernel_rfl
theorem ok25 : rfunc Try.prog Try.f25 ps25 ms25 = some f25 := by kernel_rfl
theorem ok29 : rfunc Try.prog Try.f29 ps29 ms29 = some f29 := by kernel_rfl
theorem ok30 : rfunc Try.prog Try.f30 ps30 ms30 = some f30 := by kernel_rfl
theorem ok31 : rfunc Try.prog Try.f31 ps31 ms31 = some f31 := by kernel_rfl
theorem ok32 : rfunc Try.prog Try.f32 ps32 ms32 = some f32 := by kernel_rfl
theorem ok39 : rfunc Try.prog Try.f39 ps39 ms39 = some f39 := by kernel_rfl
theorem ok40 : rfunc Try.prog Try.f40 ps40 ms40 = some f40 := by kernel_rfl
theorem ok41 : rfunc Try.prog Try.f41 ps41 ms41 = some f41 := by kernel_rfl
theorem ok42 : rfunc Try.prog Try.f42 ps42 ms42 = some f42 := by kernel_rfl
theorem ok43 : rfunc Try.prog Try.f43 ps43 ms43 = some f43 := by kernel_rfl
theorem ok44 : rfunc Try.prog Try.f44 ps44 ms44 = some f44 := by kernel_rfl
theorem ok63 : rfunc Try.prog Try.f63 ps63 ms63 = some f63 := by kernel_rfl
theorem ok64 : rfunc Try.prog Try.f64 ps64 ms64 = some f64 := by kernel_rfl
theorem ok65 : rfunc Try.prog Try.f65 ps65 ms65 = some f65 := by kernel_rfl
theorem ok67 : rfunc Try.prog Try.f67 ps67 ms67 = some f67 := by kernel_rfl
theorem ok68 : rfunc Try.prog Try.f68 ps68 ms68 = some f68 := by kernel_rfl
theorem ok69 : rfunc Try.prog Try.f69 ps69 ms69 = some f69 := by kernel_rfl
theorem ok81 : rfunc Try.prog Try.f81 ps81 ms81 = some f81 := by kernel_rfl
def T : FuncId → Option IFunc
  | 8 => some f8
  | 16 => some f16
  | 17 => some f17
  | 19 => some f19
  | 21 => some f21
  | 23 => some f23
  | 25 => some f25
  | 29 => some f29
  | 30 => some f30
  | 31 => some f31
  | 32 => some f32
  | 39 => some f39
  | 40 => some f40
  | 41 => some f41
  | 42 => some f42
  | 43 => some f43
  | 44 => some f44
  | 63 => some f63
  | 64 => some f64
  | 65 => some f65
  | 67 => some f67
  | 68 => some f68
  | 69 => some f69
  | 81 => some f81
  | _ => none
theorem T_ok : TOk Try.prog T := by
  intro f i h
  unfold T at h
  split at h <;> cases h
  · exact .inl ⟨_, _, _, Try.func8, ok8⟩
  · exact .inl ⟨_, _, _, Try.func16, ok16⟩
  · exact .inl ⟨_, _, _, Try.func17, ok17⟩
  · exact .inl ⟨_, _, _, Try.func19, ok19⟩
  · exact .inl ⟨_, _, _, Try.func21, ok21⟩
  · exact .inl ⟨_, _, _, Try.func23, ok23⟩
  · exact .inl ⟨_, _, _, Try.func25, ok25⟩
  · exact .inl ⟨_, _, _, Try.func29, ok29⟩
  · exact .inl ⟨_, _, _, Try.func30, ok30⟩
  · exact .inl ⟨_, _, _, Try.func31, ok31⟩
  · exact .inl ⟨_, _, _, Try.func32, ok32⟩
  · exact .inl ⟨_, _, _, Try.func39, ok39⟩
  · exact .inl ⟨_, _, _, Try.func40, ok40⟩
  · exact .inl ⟨_, _, _, Try.func41, ok41⟩
  · exact .inl ⟨_, _, _, Try.func42, ok42⟩
  · exact .inl ⟨_, _, _, Try.func43, ok43⟩
  · exact .inl ⟨_, _, _, Try.func44, ok44⟩
  · exact .inl ⟨_, _, _, Try.func63, ok63⟩
  · exact .inl ⟨_, _, _, Try.func64, ok64⟩
  · exact .inl ⟨_, _, _, Try.func65, ok65⟩
  · exact .inl ⟨_, _, _, Try.func67, ok67⟩
  · exact .inl ⟨_, _, _, Try.func68, ok68⟩
  · exact .inl ⟨_, _, _, Try.func69, ok69⟩
  · exact .inl ⟨_, _, _, Try.func81, ok81⟩
end Go.Proofs.YtgekngfnhhdamaaI
