/- What the statement's proof needs (joined out of several texts); no conditions. -/
import Derived.Test.YtgekngfnhhdamaaProg
import Derived.Test.YtgekngfnhhdamaaM25
/- The functions of the laws, told as the machine's; no conditions. -/
set_option maxRecDepth 100000
set_option linter.unusedVariables false
namespace Go.Proofs.YtgekngfnhhdamaaI
open Go Go.Proofs.YtgekngfnhhdamaaM
-- chatelaine/chatelainelaw10.MsgParses
def r12_0 : List IOper := [⟨some 2, .mov (.c (.bool false)), none⟩]
def r12_1 : List IOper := [⟨some 7, .callF 45 [], none⟩,
  ⟨some 8, .un .not (.t 7), none⟩]
def r12_2 : List IOper := [⟨some 2, .mov (.c (.bool false)), none⟩]
def r12_3 : List IOper := [⟨some 9, .mov (.t 0), none⟩,
  ⟨some 10, .callF 16 [(.t 9), (.c (.int .i64 700))], none⟩,
  ⟨some 0, .mov (.t 10), none⟩]
def r12_4 : List IOper := [⟨some 12, .mov (.t 0), none⟩,
  ⟨some 13, .callF 55 [(.t 12)], none⟩,
  ⟨some 11, .mov (.t 13), none⟩,
  ⟨some 14, .ext (.t 11) 0, none⟩,
  ⟨some 15, .ext (.t 11) 1, none⟩,
  ⟨some 3, .alloc [(.int .i64 0), (.int .i64 0), (.int .i64 0), (.int .i64 0), (.int .u64 0), (.int .i64 0), (.int .i64 0), (.int .i64 0), (.bool false), (.str (⟨#[]⟩ : ByteArray)), .nils], none⟩,
  ⟨none, .store 11 (.t 3) (.t 14), none⟩,
  ⟨some 4, .mov (.t 15), none⟩]
def r12_5 : List IOper := [⟨some 17, .mov (.t 0), none⟩,
  ⟨some 18, .callF 56 [(.t 17)], none⟩,
  ⟨some 16, .mov (.t 18), none⟩,
  ⟨some 19, .ext (.t 16) 0, none⟩,
  ⟨some 20, .ext (.t 16) 1, none⟩,
  ⟨some 5, .alloc [(.int .i64 0), (.int .i64 0), (.int .i64 0), (.int .i64 0), (.int .u64 0), (.int .i64 0), (.int .i64 0), (.int .i64 0), (.bool false), (.str (⟨#[]⟩ : ByteArray)), .nils], none⟩,
  ⟨none, .store 11 (.t 5) (.t 19), none⟩,
  ⟨some 6, .mov (.t 20), none⟩]
def r12_6 : List IOper := [⟨some 21, .mov (.t 4), none⟩,
  ⟨some 22, .mov (.t 6), none⟩,
  ⟨some 23, .bin .neq (.t 21) (.t 22), none⟩,
  ⟨some 24, .mov (.t 23), none⟩,
  ⟨some 25, .load (some 11) (.t 3), some (24, false)⟩,
  ⟨some 26, .load (some 11) (.t 5), some (24, false)⟩,
  ⟨some 27, .callF 47 [(.t 26)], some (24, false)⟩,
  ⟨some 28, .callF 52 [(.t 25), (.t 27)], some (24, false)⟩,
  ⟨some 29, .un .not (.t 28), some (24, false)⟩,
  ⟨some 30, .pick (.t 24) (.c (.bool true)) (.t 29), none⟩]
def r12_7 : List IOper := [⟨some 2, .mov (.c (.bool false)), none⟩]
def r12_8 : List IOper := [⟨some 31, .mov (.t 6), none⟩,
  ⟨some 32, .bin .neq (.t 31) (.c (.int .i64 0)), none⟩,
  ⟨some 33, .mov (.t 32), none⟩,
  ⟨some 34, .load (some 11) (.t 3), some (33, false)⟩,
  ⟨some 35, .callF 49 [(.t 34)], some (33, false)⟩,
  ⟨some 36, .bin .eql (.t 35) (.c (.int .i64 0)), some (33, false)⟩,
  ⟨some 37, .mov (.t 36), some (33, false)⟩,
  ⟨some 38, .load (some 11) (.t 3), some (37, true)⟩,
  ⟨some 39, .callF 50 [(.t 38)], some (37, true)⟩,
  ⟨some 40, .mov (.t 0), some (37, true)⟩,
  ⟨some 41, .bin .eql (.t 39) (.t 40), some (37, true)⟩,
  ⟨some 42, .pick (.t 37) (.t 41) (.c (.bool false)), some (33, false)⟩,
  ⟨some 43, .pick (.t 33) (.c (.bool true)) (.t 42), none⟩,
  ⟨some 2, .mov (.t 43), none⟩]
def b12 : ICode :=
 (.seq (.reg [(0, false)] r12_0)
 (.seq (.seq (.reg [(0, false), (1, false)] r12_1)
 (.cond (.t 8) (.seq (.reg [(0, false)] r12_2)
 .ret)
 .skip))
 (.seq (.reg [(0, false), (1, false), (2, false)] r12_3)
 (.seq (.reg [(0, false), (1, false), (2, false), (3, false), (4, false), (5, false), (6, false), (7, false)] r12_4)
 (.seq (.reg [(0, false), (1, false), (2, false), (3, false), (4, false), (5, false), (6, false), (7, false)] r12_5)
 (.seq (.seq (.reg [(0, false), (1, false), (2, false), (3, false), (4, false), (5, false), (6, false), (4, true), (7, false), (8, false), (9, false)] r12_6)
 (.cond (.t 30) (.seq (.reg [(0, false)] r12_7)
 .ret)
 .skip))
 (.seq (.reg [(0, false), (1, false), (2, false), (3, false), (4, false), (5, false), (6, false), (7, false), (8, false), (9, false), (10, false), (11, false), (12, false), (13, false)] r12_8)
 .ret)))))))
def f12 : IFunc := { nt := 44, res := [((.t 2), none)], body := b12 }
def ps12 : List Phases := [⟨[([(0, false), (1, false), (2, false), (3, false), (4, false), (5, false)], 6), ([(4, true)], 7)], [(8, false), (9, false)]⟩]
def ms12 : List (Option (List Nat)) := [none, none]
-- chatelaine/chatelainelaw01.Cut
def r16_0 : List IOper := [⟨some 4, .mov (.c (.str (⟨#[]⟩ : ByteArray))), none⟩]
def r16_1 : List IOper := [⟨some 5, .mov (.t 0), none⟩,
  ⟨some 6, .lenS (.t 5), none⟩,
  ⟨some 7, .mov (.t 1), none⟩,
  ⟨some 8, .bin .gtr (.t 6) (.t 7), none⟩]
def r16_2 : List IOper := [⟨some 9, .mov (.t 0), none⟩,
  ⟨some 10, .mov (.t 1), none⟩,
  ⟨some 11, .slcStr (.t 9) none (some (.t 10)), none⟩,
  ⟨some 4, .mov (.t 11), none⟩]
def r16_3 : List IOper := [⟨some 12, .mov (.t 0), none⟩,
  ⟨some 4, .mov (.t 12), none⟩]
def b16 : ICode :=
 (.seq (.reg [(0, false)] r16_0)
 (.seq (.seq (.reg [(0, false), (1, false), (2, false), (3, false)] r16_1)
 (.cond (.t 8) (.seq (.reg [(0, false), (1, false), (2, false), (3, false)] r16_2)
 .ret)
 .skip))
 (.seq (.reg [(0, false), (1, false)] r16_3)
 .ret)))
def f16 : IFunc := { nt := 13, res := [((.t 4), none)], body := b16 }
def ps16 : List Phases := []
def ms16 : List (Option (List Nat)) := [none]
-- chatelaine/code.Read
def r17_0 : List IOper := [⟨some 2, .mov (.c .nilp), none⟩]
def r17_1 : List IOper := [⟨some 3, .mov (.t 0), none⟩,
  ⟨some 4, .build [(.str (⟨#[]⟩ : ByteArray)), (.int .i64 0)] [(0, 1, (.t 3))], none⟩,
  ⟨some 5, .box 2 (.t 4), none⟩,
  ⟨some 2, .mov (.t 5), none⟩]
def b17 : ICode :=
 (.seq (.reg [(0, false)] r17_0)
 (.seq (.reg [(0, false), (1, false), (2, false), (3, false)] r17_1)
 .ret))
def f17 : IFunc := { nt := 6, res := [((.t 2), none)], body := b17 }
def ps17 : List Phases := []
def ms17 : List (Option (List Nat)) := []
-- chatelaine/chatelaineref01.TakeU
def r18_0 : List IOper := [⟨some 1, .box 2 (.t 0), none⟩,
  ⟨some 2, .alloc [(.str (⟨#[]⟩ : ByteArray)), (.int .i64 0)], none⟩,
  ⟨some 3, .mov (.c (.int .u64 0)), none⟩]
def r18_1 : List IOper := [⟨some 12, .load (some 2) (.t 1), none⟩,
  ⟨some 13, .callF 61 [(.t 12), (.c (.int .i64 1))], none⟩,
  ⟨some 11, .mov (.t 13), none⟩,
  ⟨some 14, .ext (.t 11) 0, none⟩,
  ⟨some 15, .ext (.t 11) 1, none⟩,
  ⟨some 4, .alloc [(.str (⟨#[]⟩ : ByteArray)), (.int .i64 0)], none⟩,
  ⟨none, .store 2 (.t 4) (.t 14), none⟩,
  ⟨some 5, .mov (.t 15), none⟩]
def r18_2 : List IOper := [⟨some 16, .fld 1 (.t 4), none⟩,
  ⟨some 17, .load none (.t 16), none⟩,
  ⟨some 18, .bin .neq (.t 17) (.c (.int .i64 0)), none⟩]
def r18_3 : List IOper := [⟨some 19, .load (some 2) (.t 4), none⟩,
  ⟨none, .store 2 (.t 2) (.t 19), none⟩,
  ⟨some 3, .mov (.c (.int .u64 0)), none⟩]
def r18_4 : List IOper := [⟨some 6, .mov (.c (.int .i64 0)), none⟩]
def r18_5 : List IOper := [⟨some 20, .mov (.t 5), none⟩,
  ⟨some 21, .ixStr (.t 20) (.c (.int .i64 0)), none⟩]
def r18_6 : List IOper := [⟨some 23, .bin .eql (.t 21) (.c (.int .u8 252)), none⟩,
  ⟨some 22, .mov (.t 23), none⟩]
def r18_7 : List IOper := [⟨some 6, .mov (.c (.int .i64 2)), none⟩]
def r18_8 : List IOper := [⟨some 25, .bin .eql (.t 21) (.c (.int .u8 253)), none⟩,
  ⟨some 24, .mov (.t 25), none⟩]
def r18_9 : List IOper := [⟨some 6, .mov (.c (.int .i64 4)), none⟩]
def r18_10 : List IOper := [⟨some 27, .bin .eql (.t 21) (.c (.int .u8 254)), none⟩,
  ⟨some 26, .mov (.t 27), none⟩]
def r18_11 : List IOper := [⟨some 6, .mov (.c (.int .i64 8)), none⟩]
def r18_12 : List IOper := [⟨some 29, .bin .eql (.t 21) (.c (.int .u8 255)), none⟩,
  ⟨some 28, .mov (.t 29), none⟩]
def r18_13 : List IOper := [⟨some 30, .load (some 2) (.t 4), none⟩,
  ⟨some 31, .callF 62 [(.t 30), (.c (.int .i64 4))], none⟩,
  ⟨none, .store 2 (.t 2) (.t 31), none⟩,
  ⟨some 3, .mov (.c (.int .u64 0)), none⟩]
def r18_14 : List IOper := [⟨some 33, .load (some 2) (.t 4), none⟩,
  ⟨some 34, .mov (.t 6), none⟩,
  ⟨some 35, .callF 61 [(.t 33), (.t 34)], none⟩,
  ⟨some 32, .mov (.t 35), none⟩,
  ⟨some 36, .ext (.t 32) 0, none⟩,
  ⟨some 37, .ext (.t 32) 1, none⟩,
  ⟨some 7, .alloc [(.str (⟨#[]⟩ : ByteArray)), (.int .i64 0)], none⟩,
  ⟨none, .store 2 (.t 7) (.t 36), none⟩,
  ⟨some 8, .mov (.t 37), none⟩]
def r18_15 : List IOper := [⟨some 38, .fld 1 (.t 7), none⟩,
  ⟨some 39, .load none (.t 38), none⟩,
  ⟨some 40, .bin .neq (.t 39) (.c (.int .i64 0)), none⟩]
def r18_16 : List IOper := [⟨some 41, .load (some 2) (.t 7), none⟩,
  ⟨none, .store 2 (.t 2) (.t 41), none⟩,
  ⟨some 3, .mov (.c (.int .u64 0)), none⟩]
def r18_17 : List IOper := [⟨some 42, .mov (.t 6), none⟩,
  ⟨some 43, .bin .eql (.t 42) (.c (.int .i64 0)), none⟩]
def r18_18 : List IOper := [⟨some 44, .load (some 2) (.t 7), none⟩,
  ⟨some 45, .mov (.t 5), none⟩,
  ⟨some 46, .ixStr (.t 45) (.c (.int .i64 0)), none⟩,
  ⟨some 47, .conv .u64 (.t 46), none⟩,
  ⟨none, .store 2 (.t 2) (.t 44), none⟩,
  ⟨some 3, .mov (.t 47), none⟩]
def r18_19 : List IOper := [⟨some 9, .mov (.c (.int .u64 0)), none⟩]
def r18_20 : List IOper := [⟨some 10, .mov (.c (.int .i64 0)), none⟩]
def r18_21 : List IOper := [⟨some 48, .mov (.t 10), none⟩,
  ⟨some 49, .mov (.t 6), none⟩,
  ⟨some 50, .bin .lss (.t 48) (.t 49), none⟩]
def r18_22 : List IOper := [⟨some 53, .mov (.t 9), none⟩,
  ⟨some 54, .bin .mul (.c (.int .u64 256)) (.t 53), none⟩,
  ⟨some 55, .mov (.t 8), none⟩,
  ⟨some 56, .mov (.t 10), none⟩,
  ⟨some 57, .ixStr (.t 55) (.t 56), none⟩,
  ⟨some 58, .conv .u64 (.t 57), none⟩,
  ⟨some 59, .bin .add (.t 54) (.t 58), none⟩,
  ⟨some 9, .mov (.t 59), none⟩]
def r18_23 : List IOper := [⟨some 51, .mov (.t 10), none⟩,
  ⟨some 52, .bin .add (.t 51) (.c (.int .i64 1)), none⟩,
  ⟨some 10, .mov (.t 52), none⟩]
def r18_24 : List IOper := [⟨some 60, .mov (.t 9), none⟩,
  ⟨some 61, .callF 57 [(.t 60)], none⟩,
  ⟨some 62, .mov (.t 5), none⟩,
  ⟨some 63, .mov (.t 8), none⟩,
  ⟨some 64, .bin .add (.t 62) (.t 63), none⟩,
  ⟨some 65, .bin .neq (.t 61) (.t 64), none⟩]
def r18_25 : List IOper := [⟨some 66, .load (some 2) (.t 7), none⟩,
  ⟨some 67, .callF 62 [(.t 66), (.c (.int .i64 4))], none⟩,
  ⟨none, .store 2 (.t 2) (.t 67), none⟩,
  ⟨some 3, .mov (.c (.int .u64 0)), none⟩]
def r18_26 : List IOper := [⟨some 68, .load (some 2) (.t 7), none⟩,
  ⟨some 69, .mov (.t 9), none⟩,
  ⟨none, .store 2 (.t 2) (.t 68), none⟩,
  ⟨some 3, .mov (.t 69), none⟩]
def b18 : ICode :=
 (.seq (.reg [(0, false), (1, false), (2, false)] r18_0)
 (.seq (.reg [(0, false), (1, false), (2, false), (3, false), (4, false), (5, false), (6, false), (7, false)] r18_1)
 (.seq (.seq (.reg [(0, false), (1, false), (2, false)] r18_2)
 (.cond (.t 18) (.seq (.reg [(0, false), (1, false), (2, false)] r18_3)
 .ret)
 .skip))
 (.seq (.reg [(0, false)] r18_4)
 (.seq (.seq (.reg [(0, false), (1, false)] r18_5)
 (.seq (.block 0 (.seq (.reg [(0, false), (1, false)] r18_6)
 (.seq (.cond (.t 22) (.reg [(0, false)] r18_7)
 (.seq (.reg [(0, false), (1, false)] r18_8)
 (.seq (.cond (.t 24) (.reg [(0, false)] r18_9)
 (.seq (.reg [(0, false), (1, false)] r18_10)
 (.seq (.cond (.t 26) (.reg [(0, false)] r18_11)
 (.seq (.reg [(0, false), (1, false)] r18_12)
 (.cond (.t 28) (.seq (.reg [(0, false), (1, false), (2, false), (3, false)] r18_13)
 .ret)
 .skip))) (.mask [2, 4, 5, 6])))) (.mask [2, 4, 5, 6])))) (.mask [2, 4, 5, 6])))) (.mask [2, 4, 5, 6])))
 (.seq (.reg [(0, false), (1, false), (2, false), (3, false), (4, false), (5, false), (6, false), (7, false), (8, false)] r18_14)
 (.seq (.seq (.reg [(0, false), (1, false), (2, false)] r18_15)
 (.cond (.t 40) (.seq (.reg [(0, false), (1, false), (2, false)] r18_16)
 .ret)
 .skip))
 (.seq (.seq (.reg [(0, false), (1, false)] r18_17)
 (.cond (.t 43) (.seq (.reg [(0, false), (1, false), (2, false), (3, false), (4, false), (5, false)] r18_18)
 .ret)
 .skip))
 (.seq (.reg [(0, false)] r18_19)
 (.seq (.seq (.reg [(0, false)] r18_20)
 (.seq (.block 1 (.loop (.seq (.mask [2, 5, 6, 7, 8, 9, 10]) (.seq (.seq (.reg [(0, false), (1, false), (2, false)] r18_21)
 (.cond (.t 50) .skip
 (.exit 1)))
 (.seq (.seq (.block 2 (.reg [(0, false), (1, false), (2, false), (3, false), (4, false), (5, false), (6, false), (7, false)] r18_22)) (.mask [2, 5, 6, 7, 8, 9, 10]))
 (.reg [(0, false), (1, false), (2, false)] r18_23)))))) (.mask [2, 5, 7, 8, 9])))
 (.seq (.seq (.reg [(0, false), (1, false), (2, false), (3, false), (4, false), (5, false)] r18_24)
 (.cond (.t 65) (.seq (.reg [(0, false), (1, false), (2, false), (3, false)] r18_25)
 .ret)
 .skip))
 (.seq (.reg [(0, false), (1, false), (2, false), (3, false)] r18_26)
 .ret))))))))))))
def f18 : IFunc := { nt := 70, res := [((.t 2), some (some 2)), ((.t 3), none)], body := b18 }
def ps18 : List Phases := [⟨[([(0, false), (1, false), (2, false), (3, false)], 4)], [(5, false)]⟩]
def ms18 : List (Option (List Nat)) := [none, none, some [2, 4, 5, 6], some [2, 4, 5, 6], some [2, 4, 5, 6], some [2, 4, 5, 6], none, none, some [2, 5, 6, 7, 8, 9, 10], none, some [2, 5, 6, 7, 8, 9, 10], some [2, 5, 7, 8, 9], none]
-- (*chatelaine/code.Reader).U
def r19_0 : List IOper := [⟨some 2, .mov (.c (.int .u64 0)), none⟩]
def r19_1 : List IOper := [⟨some 10, .mov (.t 0), none⟩,
  ⟨some 11, .callF 63 [(.t 10), (.c (.int .i64 1))], none⟩,
  ⟨some 3, .mov (.t 11), none⟩]
def r19_2 : List IOper := [⟨some 12, .mov (.t 3), none⟩,
  ⟨some 13, .bin .eql (.t 12) (.c (.str (⟨#[]⟩ : ByteArray))), none⟩]
def r19_3 : List IOper := [⟨some 2, .mov (.c (.int .u64 0)), none⟩]
def r19_4 : List IOper := [⟨some 14, .mov (.t 3), none⟩,
  ⟨some 15, .ixStr (.t 14) (.c (.int .i64 0)), none⟩,
  ⟨some 16, .bin .lss (.t 15) (.c (.int .u8 252)), none⟩]
def r19_5 : List IOper := [⟨some 17, .mov (.t 3), none⟩,
  ⟨some 18, .ixStr (.t 17) (.c (.int .i64 0)), none⟩,
  ⟨some 19, .conv .u64 (.t 18), none⟩,
  ⟨some 2, .mov (.t 19), none⟩]
def r19_6 : List IOper := [⟨some 4, .mov (.c (.int .i64 8)), none⟩]
def r19_7 : List IOper := [⟨some 20, .mov (.t 3), none⟩,
  ⟨some 21, .ixStr (.t 20) (.c (.int .i64 0)), none⟩]
def r19_8 : List IOper := [⟨some 23, .bin .eql (.t 21) (.c (.int .u8 252)), none⟩,
  ⟨some 22, .mov (.t 23), none⟩]
def r19_9 : List IOper := [⟨some 4, .mov (.c (.int .i64 2)), none⟩]
def r19_10 : List IOper := [⟨some 25, .bin .eql (.t 21) (.c (.int .u8 253)), none⟩,
  ⟨some 24, .mov (.t 25), none⟩]
def r19_11 : List IOper := [⟨some 4, .mov (.c (.int .i64 4)), none⟩]
def r19_12 : List IOper := [⟨some 27, .bin .eql (.t 21) (.c (.int .u8 255)), none⟩,
  ⟨some 26, .mov (.t 27), none⟩]
def r19_13 : List IOper := [⟨some 28, .mov (.t 0), none⟩,
  ⟨some 29, .callF 32 [(.t 28), (.c (.int .i64 4))], none⟩]
def r19_14 : List IOper := [⟨some 5, .mov (.c (.int .u64 0)), none⟩]
def r19_15 : List IOper := [⟨some 30, .mov (.t 0), none⟩,
  ⟨some 31, .mov (.t 4), none⟩,
  ⟨some 32, .callF 63 [(.t 30), (.t 31)], none⟩,
  ⟨some 33, .s2b (.t 32), none⟩,
  ⟨some 34, .lenL (.t 33), none⟩,
  ⟨some 35, .mov (.c (.int .i64 0)), none⟩]
def r19_16 : List IOper := [⟨some 36, .bin .lss (.t 35) (.t 34), none⟩]
def r19_17 : List IOper := [⟨some 37, .ixS 1 (.t 33) (.t 35), none⟩,
  ⟨some 38, .load none (.t 37), none⟩,
  ⟨some 7, .mov (.t 38), none⟩]
def r19_18 : List IOper := [⟨some 39, .mov (.t 5), none⟩,
  ⟨some 40, .bin .shl (.t 39) (.c (.int .u64 8)), none⟩,
  ⟨some 41, .mov (.t 7), none⟩,
  ⟨some 42, .conv .u64 (.t 41), none⟩,
  ⟨some 43, .bin .or (.t 40) (.t 42), none⟩,
  ⟨some 5, .mov (.t 43), none⟩]
def r19_19 : List IOper := [⟨some 44, .bin .add (.t 35) (.c (.int .i64 1)), none⟩,
  ⟨some 35, .mov (.t 44), none⟩]
def r19_20 : List IOper := [⟨some 46, .mov (.t 5), none⟩,
  ⟨some 47, .callF 64 [(.t 46)], none⟩,
  ⟨some 45, .mov (.t 47), none⟩,
  ⟨some 48, .ext (.t 45) 0, none⟩,
  ⟨some 49, .ext (.t 45) 1, none⟩,
  ⟨some 8, .mov (.t 48), none⟩,
  ⟨some 9, .mov (.t 49), none⟩]
def r19_21 : List IOper := [⟨some 50, .mov (.t 8), none⟩,
  ⟨some 51, .mov (.t 3), none⟩,
  ⟨some 52, .ixStr (.t 51) (.c (.int .i64 0)), none⟩,
  ⟨some 53, .bin .neq (.t 50) (.t 52), none⟩]
def r19_22 : List IOper := [⟨some 54, .mov (.t 0), none⟩,
  ⟨some 55, .callF 32 [(.t 54), (.c (.int .i64 4))], none⟩]
def r19_23 : List IOper := [⟨some 56, .mov (.t 0), none⟩,
  ⟨some 57, .nilck (.t 56), none⟩,
  ⟨some 58, .fld 1 (.t 57), none⟩,
  ⟨some 59, .load none (.t 58), none⟩,
  ⟨some 60, .bin .neq (.t 59) (.c (.int .i64 0)), none⟩]
def r19_24 : List IOper := [⟨some 2, .mov (.c (.int .u64 0)), none⟩]
def r19_25 : List IOper := [⟨some 61, .mov (.t 5), none⟩,
  ⟨some 2, .mov (.t 61), none⟩]
def b19 : ICode :=
 (.seq (.reg [(0, false)] r19_0)
 (.seq (.reg [(0, false), (1, false), (2, false)] r19_1)
 (.seq (.seq (.reg [(0, false), (1, false)] r19_2)
 (.cond (.t 13) (.seq (.reg [(0, false)] r19_3)
 .ret)
 .skip))
 (.seq (.seq (.reg [(0, false), (1, false), (2, false)] r19_4)
 (.cond (.t 16) (.seq (.reg [(0, false), (1, false), (2, false), (3, false)] r19_5)
 .ret)
 .skip))
 (.seq (.reg [(0, false)] r19_6)
 (.seq (.seq (.reg [(0, false), (1, false)] r19_7)
 (.seq (.block 0 (.seq (.reg [(0, false), (1, false)] r19_8)
 (.seq (.cond (.t 22) (.reg [(0, false)] r19_9)
 (.seq (.reg [(0, false), (1, false)] r19_10)
 (.seq (.cond (.t 24) (.reg [(0, false)] r19_11)
 (.seq (.reg [(0, false), (1, false)] r19_12)
 (.seq (.cond (.t 26) (.reg [(0, false), (1, false)] r19_13)
 .skip) (.mask [0, 3, 4])))) (.mask [0, 3, 4])))) (.mask [0, 3, 4])))) (.mask [0, 3, 4])))
 (.seq (.reg [(0, false)] r19_14)
 (.seq (.seq (.reg [(0, false), (1, false), (2, false), (3, false), (4, false), (5, false)] r19_15)
 (.seq (.block 1 (.loop (.seq (.mask [0, 3, 5, 33, 34, 35]) (.seq (.reg [(0, false)] r19_16)
 (.seq (.cond (.t 36) .skip
 (.exit 1))
 (.seq (.seq (.block 2 (.seq (.reg [(0, false), (1, false), (2, false)] r19_17)
 (.reg [(0, false), (1, false), (2, false), (3, false), (4, false), (5, false)] r19_18))) (.mask [0, 3, 5, 33, 34, 35]))
 (.reg [(0, false), (1, false)] r19_19))))))) (.mask [0, 3, 5])))
 (.seq (.seq (.reg [(0, false), (1, false), (2, false), (3, false), (4, false), (5, false), (6, false)] r19_20)
 (.seq (.reg [(0, false), (1, false), (2, false), (3, false)] r19_21)
 (.seq (.cond (.t 53) (.reg [(0, false), (1, false)] r19_22)
 .skip) (.mask [0, 5]))))
 (.seq (.seq (.reg [(0, false), (1, false), (2, false), (3, false), (4, false)] r19_23)
 (.cond (.t 60) (.seq (.reg [(0, false)] r19_24)
 .ret)
 .skip))
 (.seq (.reg [(0, false), (1, false)] r19_25)
 .ret)))))))))))
def f19 : IFunc := { nt := 62, res := [((.t 2), none)], body := b19 }
def ps19 : List Phases := []
def ms19 : List (Option (List Nat)) := [none, none, some [0, 3, 4], some [0, 3, 4], some [0, 3, 4], some [0, 3, 4], some [0, 3, 5, 33, 34, 35], none, some [0, 3, 5, 33, 34, 35], some [0, 3, 5], some [0, 5], none]
-- chatelaine/chatelaineref01.TakeN
def r20_0 : List IOper := [⟨some 2, .box 2 (.t 0), none⟩,
  ⟨some 4, .alloc [(.str (⟨#[]⟩ : ByteArray)), (.int .i64 0)], none⟩,
  ⟨some 5, .mov (.c (.int .i64 0)), none⟩]
def r20_1 : List IOper := [⟨some 9, .load (some 2) (.t 2), none⟩,
  ⟨some 10, .callF 18 [(.t 9)], none⟩,
  ⟨some 8, .mov (.t 10), none⟩,
  ⟨some 11, .ext (.t 8) 0, none⟩,
  ⟨some 12, .ext (.t 8) 1, none⟩,
  ⟨some 6, .alloc [(.str (⟨#[]⟩ : ByteArray)), (.int .i64 0)], none⟩,
  ⟨none, .store 2 (.t 6) (.t 11), none⟩,
  ⟨some 7, .mov (.t 12), none⟩]
def r20_2 : List IOper := [⟨some 13, .mov (.t 1), none⟩,
  ⟨some 14, .bin .lss (.t 13) (.c (.int .i64 0)), none⟩]
def r20_3 : List IOper := [⟨some 1, .mov (.c (.int .i64 0)), none⟩]
def r20_4 : List IOper := [⟨some 15, .fld 1 (.t 6), none⟩,
  ⟨some 16, .load none (.t 15), none⟩,
  ⟨some 17, .bin .eql (.t 16) (.c (.int .i64 0)), none⟩,
  ⟨some 18, .mov (.t 17), none⟩,
  ⟨some 19, .mov (.t 7), some (18, true)⟩,
  ⟨some 20, .mov (.t 1), some (18, true)⟩,
  ⟨some 21, .conv .u64 (.t 20), some (18, true)⟩,
  ⟨some 22, .bin .gtr (.t 19) (.t 21), some (18, true)⟩,
  ⟨some 23, .pick (.t 18) (.t 22) (.c (.bool false)), none⟩]
def r20_5 : List IOper := [⟨some 24, .fld 1 (.t 6), none⟩,
  ⟨none, .store 1 (.t 24) (.c (.int .i64 6)), none⟩]
def r20_6 : List IOper := [⟨some 25, .fld 1 (.t 6), none⟩,
  ⟨some 26, .load none (.t 25), none⟩,
  ⟨some 27, .bin .neq (.t 26) (.c (.int .i64 0)), none⟩]
def r20_7 : List IOper := [⟨some 28, .load (some 2) (.t 6), none⟩,
  ⟨none, .store 2 (.t 4) (.t 28), none⟩,
  ⟨some 5, .mov (.c (.int .i64 0)), none⟩]
def r20_8 : List IOper := [⟨some 29, .load (some 2) (.t 6), none⟩,
  ⟨some 30, .mov (.t 7), none⟩,
  ⟨some 31, .conv .i64 (.t 30), none⟩,
  ⟨none, .store 2 (.t 4) (.t 29), none⟩,
  ⟨some 5, .mov (.t 31), none⟩]
def b20 : ICode :=
 (.seq (.reg [(0, false), (1, false), (2, false)] r20_0)
 (.seq (.reg [(0, false), (1, false), (2, false), (3, false), (4, false), (5, false), (6, false), (7, false)] r20_1)
 (.seq (.seq (.reg [(0, false), (1, false)] r20_2)
 (.seq (.cond (.t 14) (.reg [(0, false)] r20_3)
 .skip) (.mask [1, 4, 6, 7])))
 (.seq (.seq (.reg [(0, false), (1, false), (2, false), (3, false), (4, false), (5, false), (6, false), (7, false), (8, false)] r20_4)
 (.seq (.cond (.t 23) (.reg [(0, false), (1, false)] r20_5)
 .skip) (.mask [4, 6, 7])))
 (.seq (.seq (.reg [(0, false), (1, false), (2, false)] r20_6)
 (.cond (.t 27) (.seq (.reg [(0, false), (1, false), (2, false)] r20_7)
 .ret)
 .skip))
 (.seq (.reg [(0, false), (1, false), (2, false), (3, false), (4, false)] r20_8)
 .ret))))))
def f20 : IFunc := { nt := 32, res := [((.t 4), some (some 2)), ((.t 5), none)], body := b20 }
def ps20 : List Phases := []
def ms20 : List (Option (List Nat)) := [some [1, 4, 6, 7], some [4, 6, 7], none]
-- (*chatelaine/code.Reader).N
def r21_0 : List IOper := [⟨some 4, .mov (.c (.int .i64 0)), none⟩]
def r21_1 : List IOper := [⟨some 6, .mov (.t 0), none⟩,
  ⟨some 7, .callF 19 [(.t 6)], none⟩,
  ⟨some 5, .mov (.t 7), none⟩]
def r21_2 : List IOper := [⟨some 8, .mov (.t 5), none⟩,
  ⟨some 9, .mov (.t 1), none⟩,
  ⟨some 10, .maxi [(.t 9), (.c (.int .i64 0))], none⟩,
  ⟨some 11, .conv .u64 (.t 10), none⟩,
  ⟨some 12, .bin .gtr (.t 8) (.t 11), none⟩]
def r21_3 : List IOper := [⟨some 13, .mov (.t 0), none⟩,
  ⟨some 14, .callF 32 [(.t 13), (.c (.int .i64 6))], none⟩]
def r21_4 : List IOper := [⟨some 4, .mov (.c (.int .i64 0)), none⟩]
def r21_5 : List IOper := [⟨some 15, .mov (.t 5), none⟩,
  ⟨some 16, .conv .i64 (.t 15), none⟩,
  ⟨some 4, .mov (.t 16), none⟩]
def b21 : ICode :=
 (.seq (.reg [(0, false)] r21_0)
 (.seq (.reg [(0, false), (1, false), (2, false)] r21_1)
 (.seq (.seq (.reg [(0, false), (1, false), (2, false), (3, false), (4, false)] r21_2)
 (.cond (.t 12) (.seq (.reg [(0, false), (1, false)] r21_3)
 (.seq (.reg [(0, false)] r21_4)
 .ret))
 .skip))
 (.seq (.reg [(0, false), (1, false), (2, false)] r21_5)
 .ret))))
def f21 : IFunc := { nt := 17, res := [((.t 4), none)], body := b21 }
def ps21 : List Phases := []
def ms21 : List (Option (List Nat)) := [none]
-- chatelaine/chatelaineref01.TakeB
def r22_0 : List IOper := [⟨some 1, .box 2 (.t 0), none⟩,
  ⟨some 2, .alloc [(.str (⟨#[]⟩ : ByteArray)), (.int .i64 0)], none⟩,
  ⟨some 3, .mov (.c (.bool false)), none⟩]
def r22_1 : List IOper := [⟨some 7, .load (some 2) (.t 1), none⟩,
  ⟨some 8, .callF 61 [(.t 7), (.c (.int .i64 1))], none⟩,
  ⟨some 6, .mov (.t 8), none⟩,
  ⟨some 9, .ext (.t 6) 0, none⟩,
  ⟨some 10, .ext (.t 6) 1, none⟩,
  ⟨some 4, .alloc [(.str (⟨#[]⟩ : ByteArray)), (.int .i64 0)], none⟩,
  ⟨none, .store 2 (.t 4) (.t 9), none⟩,
  ⟨some 5, .mov (.t 10), none⟩]
def r22_2 : List IOper := [⟨some 11, .fld 1 (.t 4), none⟩,
  ⟨some 12, .load none (.t 11), none⟩,
  ⟨some 13, .bin .eql (.t 12) (.c (.int .i64 0)), none⟩,
  ⟨some 14, .mov (.t 13), none⟩,
  ⟨some 15, .mov (.t 5), some (14, true)⟩,
  ⟨some 16, .ixStr (.t 15) (.c (.int .i64 0)), some (14, true)⟩,
  ⟨some 17, .bin .gtr (.t 16) (.c (.int .u8 1)), some (14, true)⟩,
  ⟨some 18, .pick (.t 14) (.t 17) (.c (.bool false)), none⟩]
def r22_3 : List IOper := [⟨some 19, .fld 1 (.t 4), none⟩,
  ⟨none, .store 1 (.t 19) (.c (.int .i64 4)), none⟩]
def r22_4 : List IOper := [⟨some 20, .load (some 2) (.t 4), none⟩,
  ⟨some 21, .fld 1 (.t 4), none⟩,
  ⟨some 22, .load none (.t 21), none⟩,
  ⟨some 23, .bin .eql (.t 22) (.c (.int .i64 0)), none⟩,
  ⟨some 24, .mov (.t 23), none⟩,
  ⟨some 25, .mov (.t 5), some (24, true)⟩,
  ⟨some 26, .ixStr (.t 25) (.c (.int .i64 0)), some (24, true)⟩,
  ⟨some 27, .bin .eql (.t 26) (.c (.int .u8 1)), some (24, true)⟩,
  ⟨some 28, .pick (.t 24) (.t 27) (.c (.bool false)), none⟩,
  ⟨none, .store 2 (.t 2) (.t 20), none⟩,
  ⟨some 3, .mov (.t 28), none⟩]
def b22 : ICode :=
 (.seq (.reg [(0, false), (1, false), (2, false)] r22_0)
 (.seq (.reg [(0, false), (1, false), (2, false), (3, false), (4, false), (5, false), (6, false), (7, false)] r22_1)
 (.seq (.seq (.reg [(0, false), (1, false), (2, false), (3, false), (4, false), (5, false), (6, false), (7, false)] r22_2)
 (.seq (.cond (.t 18) (.reg [(0, false), (1, false)] r22_3)
 .skip) (.mask [2, 4, 5])))
 (.seq (.reg [(0, false), (1, false), (2, false), (3, false), (4, false), (5, false), (6, false), (7, false), (8, false), (9, false), (10, false)] r22_4)
 .ret))))
def f22 : IFunc := { nt := 29, res := [((.t 2), some (some 2)), ((.t 3), none)], body := b22 }
def ps22 : List Phases := [⟨[([(0, false), (1, false), (2, false), (3, false), (4, false), (5, false), (6, false), (7, false), (8, false)], 9)], [(10, false)]⟩]
def ms22 : List (Option (List Nat)) := [some [2, 4, 5]]
-- (*chatelaine/code.Reader).B
def r23_0 : List IOper := [⟨some 2, .mov (.c (.bool false)), none⟩]
def r23_1 : List IOper := [⟨some 4, .mov (.t 0), none⟩,
  ⟨some 5, .callF 63 [(.t 4), (.c (.int .i64 1))], none⟩,
  ⟨some 3, .mov (.t 5), none⟩]
def r23_2 : List IOper := [⟨some 6, .mov (.t 3), none⟩,
  ⟨some 7, .bin .neq (.t 6) (.c (.str (⟨#[]⟩ : ByteArray))), none⟩,
  ⟨some 8, .mov (.t 7), none⟩,
  ⟨some 9, .mov (.t 3), some (8, true)⟩,
  ⟨some 10, .ixStr (.t 9) (.c (.int .i64 0)), some (8, true)⟩,
  ⟨some 11, .bin .gtr (.t 10) (.c (.int .u8 1)), some (8, true)⟩,
  ⟨some 12, .pick (.t 8) (.t 11) (.c (.bool false)), none⟩]
def r23_3 : List IOper := [⟨some 13, .mov (.t 0), none⟩,
  ⟨some 14, .callF 32 [(.t 13), (.c (.int .i64 4))], none⟩]
def r23_4 : List IOper := [⟨some 15, .mov (.t 3), none⟩,
  ⟨some 16, .bin .eql (.t 15) (.c (.str (⟨#[1]⟩ : ByteArray))), none⟩,
  ⟨some 2, .mov (.t 16), none⟩]
def b23 : ICode :=
 (.seq (.reg [(0, false)] r23_0)
 (.seq (.reg [(0, false), (1, false), (2, false)] r23_1)
 (.seq (.seq (.reg [(0, false), (1, false), (2, false), (3, false), (4, false), (5, false), (6, false)] r23_2)
 (.seq (.cond (.t 12) (.reg [(0, false), (1, false)] r23_3)
 .skip) (.mask [3])))
 (.seq (.reg [(0, false), (1, false), (2, false)] r23_4)
 .ret))))
def f23 : IFunc := { nt := 17, res := [((.t 2), none)], body := b23 }
def ps23 : List Phases := []
def ms23 : List (Option (List Nat)) := [some [3]]
-- chatelaine/chatelaineref01.TakeS
def r24_0 : List IOper := [⟨some 2, .box 2 (.t 0), none⟩,
  ⟨some 4, .alloc [(.str (⟨#[]⟩ : ByteArray)), (.int .i64 0)], none⟩,
  ⟨some 5, .mov (.c (.str (⟨#[]⟩ : ByteArray))), none⟩]
def r24_1 : List IOper := [⟨some 9, .load (some 2) (.t 2), none⟩,
  ⟨some 10, .mov (.t 1), none⟩,
  ⟨some 11, .callF 20 [(.t 9), (.t 10)], none⟩,
  ⟨some 8, .mov (.t 11), none⟩,
  ⟨some 12, .ext (.t 8) 0, none⟩,
  ⟨some 13, .ext (.t 8) 1, none⟩,
  ⟨some 6, .alloc [(.str (⟨#[]⟩ : ByteArray)), (.int .i64 0)], none⟩,
  ⟨none, .store 2 (.t 6) (.t 12), none⟩,
  ⟨some 7, .mov (.t 13), none⟩]
def r24_2 : List IOper := [⟨some 14, .load (some 2) (.t 6), none⟩,
  ⟨some 15, .mov (.t 7), none⟩,
  ⟨some 16, .callF 61 [(.t 14), (.t 15)], none⟩,
  ⟨some 17, .ext (.t 16) 0, none⟩,
  ⟨some 18, .ext (.t 16) 1, none⟩,
  ⟨none, .store 2 (.t 4) (.t 17), none⟩,
  ⟨some 5, .mov (.t 18), none⟩]
def b24 : ICode :=
 (.seq (.reg [(0, false), (1, false), (2, false)] r24_0)
 (.seq (.reg [(0, false), (1, false), (2, false), (3, false), (4, false), (5, false), (6, false), (7, false), (8, false)] r24_1)
 (.seq (.reg [(0, false), (1, false), (2, false), (3, false), (4, false), (5, false), (6, false)] r24_2)
 .ret)))
def f24 : IFunc := { nt := 19, res := [((.t 4), some (some 2)), ((.t 5), none)], body := b24 }
def ps24 : List Phases := []
def ms24 : List (Option (List Nat)) := []
-- (*chatelaine/code.Reader).S
def r25_0 : List IOper := [⟨some 4, .mov (.c (.str (⟨#[]⟩ : ByteArray))), none⟩]
def r25_1 : List IOper := [⟨some 5, .mov (.t 0), none⟩,
  ⟨some 6, .mov (.t 0), none⟩,
  ⟨some 7, .mov (.t 1), none⟩,
  ⟨some 8, .callF 21 [(.t 6), (.t 7)], none⟩,
  ⟨some 9, .callF 63 [(.t 5), (.t 8)], none⟩,
  ⟨some 4, .mov (.t 9), none⟩]
def b25 : ICode :=
 (.seq (.reg [(0, false)] r25_0)
 (.seq (.reg [(0, false), (1, false), (2, false), (3, false), (4, false), (5, false)] r25_1)
 .ret))
def f25 : IFunc := { nt := 10, res := [((.t 4), none)], body := b25 }
def ps25 : List Phases := []
def ms25 : List (Option (List Nat)) := []
-- (*chatelaine/code.Reader).Err
def r26_0 : List IOper := [⟨some 2, .mov (.c (.int .i64 0)), none⟩]
def r26_1 : List IOper := [⟨some 3, .mov (.t 0), none⟩,
  ⟨some 4, .nilck (.t 3), none⟩,
  ⟨some 5, .fld 1 (.t 4), none⟩,
  ⟨some 6, .load none (.t 5), none⟩,
  ⟨some 2, .mov (.t 6), none⟩]
def b26 : ICode :=
 (.seq (.reg [(0, false)] r26_0)
 (.seq (.reg [(0, false), (1, false), (2, false), (3, false), (4, false)] r26_1)
 .ret))
def f26 : IFunc := { nt := 7, res := [((.t 2), none)], body := b26 }
def ps26 : List Phases := []
def ms26 : List (Option (List Nat)) := []
-- (*chatelaine/code.Reader).Done
def r29_0 : List IOper := [⟨some 2, .mov (.c (.int .i64 0)), none⟩]
def r29_1 : List IOper := [⟨some 3, .mov (.t 0), none⟩,
  ⟨some 4, .nilck (.t 3), none⟩,
  ⟨some 5, .fld 0 (.t 4), none⟩,
  ⟨some 6, .load none (.t 5), none⟩,
  ⟨some 7, .bin .neq (.t 6) (.c (.str (⟨#[]⟩ : ByteArray))), none⟩]
def r29_2 : List IOper := [⟨some 8, .mov (.t 0), none⟩,
  ⟨some 9, .callF 32 [(.t 8), (.c (.int .i64 4))], none⟩]
def r29_3 : List IOper := [⟨some 10, .mov (.t 0), none⟩,
  ⟨some 11, .nilck (.t 10), none⟩,
  ⟨some 12, .fld 1 (.t 11), none⟩,
  ⟨some 13, .load none (.t 12), none⟩,
  ⟨some 2, .mov (.t 13), none⟩]
def b29 : ICode :=
 (.seq (.reg [(0, false)] r29_0)
 (.seq (.seq (.reg [(0, false), (1, false), (2, false), (3, false), (4, false)] r29_1)
 (.seq (.cond (.t 7) (.reg [(0, false), (1, false)] r29_2)
 .skip) (.mask [0])))
 (.seq (.reg [(0, false), (1, false), (2, false), (3, false), (4, false)] r29_3)
 .ret)))
def f29 : IFunc := { nt := 14, res := [((.t 2), none)], body := b29 }
def ps29 : List Phases := []
def ms29 : List (Option (List Nat)) := [some [0]]
-- (*chatelaine/code.Writer).U
def r30_0 : List IOper := [⟨some 4, .mov (.c .nilp), none⟩]
def r30_1 : List IOper := [⟨some 9, .mov (.t 1), none⟩,
  ⟨some 10, .lenL (.t 9), none⟩,
  ⟨some 11, .mov (.c (.int .i64 0)), none⟩]
def r30_2 : List IOper := [⟨some 12, .bin .lss (.t 11) (.t 10), none⟩]
def r30_3 : List IOper := [⟨some 13, .ixS 1 (.t 9) (.t 11), none⟩,
  ⟨some 14, .load none (.t 13), none⟩,
  ⟨some 6, .mov (.t 14), none⟩]
def r30_4 : List IOper := [⟨some 16, .mov (.t 6), none⟩,
  ⟨some 17, .callF 64 [(.t 16)], none⟩,
  ⟨some 15, .mov (.t 17), none⟩,
  ⟨some 18, .ext (.t 15) 0, none⟩,
  ⟨some 19, .ext (.t 15) 1, none⟩,
  ⟨some 7, .mov (.t 18), none⟩,
  ⟨some 8, .mov (.t 19), none⟩]
def r30_5 : List IOper := [⟨some 20, .mov (.t 0), none⟩,
  ⟨some 21, .mov (.t 0), none⟩,
  ⟨some 22, .nilck (.t 21), none⟩,
  ⟨some 23, .fld 0 (.t 22), none⟩,
  ⟨some 24, .load none (.t 23), none⟩,
  ⟨some 25, .mov (.t 7), none⟩,
  ⟨some 26, .buildS 1 1 [(.int .u8 0)] [(0, (.t 25))], none⟩,
  ⟨some 27, .app 1 1 (.t 24) (.t 26), none⟩,
  ⟨some 28, .nilck (.t 20), none⟩,
  ⟨some 29, .fld 0 (.t 28), none⟩,
  ⟨none, .store 1 (.t 29) (.t 27), none⟩]
def r30_6 : List IOper := [⟨some 30, .mov (.t 0), none⟩,
  ⟨some 31, .mov (.t 6), none⟩,
  ⟨some 32, .mov (.t 8), none⟩,
  ⟨some 33, .callF 65 [(.t 30), (.t 31), (.t 32)], none⟩]
def r30_7 : List IOper := [⟨some 34, .bin .add (.t 11) (.c (.int .i64 1)), none⟩,
  ⟨some 11, .mov (.t 34), none⟩]
def r30_8 : List IOper := [⟨some 35, .mov (.t 0), none⟩,
  ⟨some 4, .mov (.t 35), none⟩]
def b30 : ICode :=
 (.seq (.reg [(0, false)] r30_0)
 (.seq (.seq (.reg [(0, false), (1, false), (2, false)] r30_1)
 (.seq (.block 0 (.loop (.seq (.mask [0, 9, 10, 11]) (.seq (.reg [(0, false)] r30_2)
 (.seq (.cond (.t 12) .skip
 (.exit 0))
 (.seq (.seq (.block 1 (.seq (.reg [(0, false), (1, false), (2, false)] r30_3)
 (.seq (.reg [(0, false), (1, false), (2, false), (3, false), (4, false), (5, false), (6, false)] r30_4)
 (.seq (.reg [(0, false), (1, false), (2, false), (3, false), (4, false), (5, false), (6, false), (7, false), (8, false), (9, false), (10, false)] r30_5)
 (.reg [(0, false), (1, false), (2, false), (3, false)] r30_6))))) (.mask [0, 9, 10, 11]))
 (.reg [(0, false), (1, false)] r30_7))))))) (.mask [0])))
 (.seq (.reg [(0, false), (1, false)] r30_8)
 .ret)))
def f30 : IFunc := { nt := 36, res := [((.t 4), none)], body := b30 }
def ps30 : List Phases := []
def ms30 : List (Option (List Nat)) := [some [0, 9, 10, 11], none, some [0, 9, 10, 11], some [0]]
-- (*chatelaine/code.Writer).Text
def r31_0 : List IOper := [⟨some 2, .mov (.c (.str (⟨#[]⟩ : ByteArray))), none⟩]
def r31_1 : List IOper := [⟨some 3, .mov (.t 0), none⟩,
  ⟨some 4, .nilck (.t 3), none⟩,
  ⟨some 5, .fld 0 (.t 4), none⟩,
  ⟨some 6, .load none (.t 5), none⟩,
  ⟨some 7, .b2s (.t 6), none⟩,
  ⟨some 2, .mov (.t 7), none⟩]
def b31 : ICode :=
 (.seq (.reg [(0, false)] r31_0)
 (.seq (.reg [(0, false), (1, false), (2, false), (3, false), (4, false), (5, false)] r31_1)
 .ret))
def f31 : IFunc := { nt := 8, res := [((.t 2), none)], body := b31 }
def ps31 : List Phases := []
def ms31 : List (Option (List Nat)) := []
-- (*chatelaine/code.Reader).Fail
def r32_0 : List IOper := [⟨some 4, .mov (.t 0), none⟩,
  ⟨some 5, .nilck (.t 4), none⟩,
  ⟨some 6, .fld 1 (.t 5), none⟩,
  ⟨some 7, .load none (.t 6), none⟩,
  ⟨some 8, .bin .eql (.t 7) (.c (.int .i64 0)), none⟩]
def r32_1 : List IOper := [⟨some 9, .mov (.t 0), none⟩,
  ⟨some 10, .mov (.t 1), none⟩,
  ⟨some 11, .nilck (.t 9), none⟩,
  ⟨some 12, .fld 1 (.t 11), none⟩,
  ⟨none, .store 1 (.t 12) (.t 10), none⟩]
def b32 : ICode :=
 (.seq (.reg [(0, false), (1, false), (2, false), (3, false), (4, false)] r32_0)
 (.seq (.cond (.t 8) (.reg [(0, false), (1, false), (2, false), (3, false), (4, false)] r32_1)
 .skip) (.mask [])))
def f32 : IFunc := { nt := 13, res := [], body := b32 }
def ps32 : List Phases := []
def ms32 : List (Option (List Nat)) := [some []]
-- (chatelaine/ballot.Ballot).Put
def r35_0 : List IOper := [⟨some 2, .box 2 (.t 0), none⟩]
def r35_1 : List IOper := [⟨some 4, .mov (.t 1), none⟩,
  ⟨some 5, .fld 0 (.t 2), none⟩,
  ⟨some 6, .load none (.t 5), none⟩,
  ⟨some 7, .buildS 1 1 [(.int .u64 0)] [(0, (.t 6))], none⟩,
  ⟨some 8, .callF 30 [(.t 4), (.t 7)], none⟩,
  ⟨some 9, .fld 1 (.t 2), none⟩,
  ⟨some 10, .load none (.t 9), none⟩,
  ⟨some 11, .buildS 1 1 [(.int .i64 0)] [(0, (.t 10))], none⟩,
  ⟨some 12, .callF 40 [(.t 8), (.t 11)], none⟩]
def b35 : ICode :=
 (.seq (.reg [(0, false)] r35_0)
 (.reg [(0, false), (1, false), (2, false), (5, false), (6, false), (3, false), (4, false), (6, true), (7, false), (8, false)] r35_1))
def f35 : IFunc := { nt := 13, res := [], body := b35 }
def ps35 : List Phases := [⟨[([(0, false), (1, false), (2, false), (5, false), (6, false), (3, false)], 4), ([(6, true), (7, false)], 8)], []⟩]
def ms35 : List (Option (List Nat)) := []
-- chatelaine/ballot.Get
def r37_0 : List IOper := [⟨some 2, .alloc [(.int .u64 0), (.int .i64 0)], none⟩]
def r37_1 : List IOper := [⟨some 4, .mov (.t 0), none⟩,
  ⟨some 5, .callF 19 [(.t 4)], none⟩,
  ⟨some 6, .build [(.int .u64 0), (.int .i64 0)] [(0, 1, (.t 5))], none⟩,
  ⟨some 3, .alloc [(.int .u64 0), (.int .i64 0)], none⟩,
  ⟨none, .store 2 (.t 3) (.t 6), none⟩]
def r37_2 : List IOper := [⟨some 7, .mov (.t 0), none⟩,
  ⟨some 8, .callF 21 [(.t 7), (.c (.int .i64 11))], none⟩,
  ⟨some 9, .fld 1 (.t 3), none⟩,
  ⟨none, .store 1 (.t 9) (.t 8), none⟩]
def r37_3 : List IOper := [⟨some 10, .fld 0 (.t 3), none⟩,
  ⟨some 11, .load none (.t 10), none⟩,
  ⟨some 12, .bin .eql (.t 11) (.c (.int .u64 0)), none⟩,
  ⟨some 13, .mov (.t 12), none⟩,
  ⟨some 14, .fld 1 (.t 3), some (13, true)⟩,
  ⟨some 15, .load none (.t 14), some (13, true)⟩,
  ⟨some 16, .bin .gtr (.t 15) (.c (.int .i64 0)), some (13, true)⟩,
  ⟨some 17, .pick (.t 13) (.t 16) (.c (.bool false)), none⟩]
def r37_4 : List IOper := [⟨some 18, .mov (.t 0), none⟩,
  ⟨some 19, .callF 32 [(.t 18), (.c (.int .i64 4))], none⟩]
def r37_5 : List IOper := [⟨some 20, .mov (.t 0), none⟩,
  ⟨some 21, .callF 26 [(.t 20)], none⟩,
  ⟨some 22, .bin .neq (.t 21) (.c (.int .i64 0)), none⟩]
def r37_6 : List IOper := [⟨some 23, .build [(.int .u64 0), (.int .i64 0)] [], none⟩,
  ⟨none, .store 2 (.t 2) (.t 23), none⟩]
def r37_7 : List IOper := [⟨some 24, .load (some 2) (.t 3), none⟩,
  ⟨none, .store 2 (.t 2) (.t 24), none⟩]
def b37 : ICode :=
 (.seq (.reg [(0, false)] r37_0)
 (.seq (.reg [(0, false), (1, false), (2, false), (3, false), (4, false)] r37_1)
 (.seq (.reg [(0, false), (1, false), (2, false), (3, false)] r37_2)
 (.seq (.seq (.reg [(0, false), (1, false), (2, false), (3, false), (4, false), (5, false), (6, false), (7, false)] r37_3)
 (.seq (.cond (.t 17) (.reg [(0, false), (1, false)] r37_4)
 .skip) (.mask [0, 2, 3])))
 (.seq (.seq (.reg [(0, false), (1, false), (2, false)] r37_5)
 (.cond (.t 22) (.seq (.reg [(0, false), (1, false)] r37_6)
 .ret)
 .skip))
 (.seq (.reg [(0, false), (1, false)] r37_7)
 .ret))))))
def f37 : IFunc := { nt := 25, res := [((.t 2), some (some 2))], body := b37 }
def ps37 : List Phases := []
def ms37 : List (Option (List Nat)) := [some [0, 2, 3], none]
-- chatelaine/chatelaineref08.Get
def r38_0 : List IOper := [⟨some 1, .box 2 (.t 0), none⟩,
  ⟨some 2, .alloc [(.str (⟨#[]⟩ : ByteArray)), (.int .i64 0)], none⟩,
  ⟨some 3, .alloc [(.int .u64 0), (.int .i64 0)], none⟩]
def r38_1 : List IOper := [⟨some 9, .load (some 2) (.t 1), none⟩,
  ⟨some 10, .callF 18 [(.t 9)], none⟩,
  ⟨some 8, .mov (.t 10), none⟩,
  ⟨some 11, .ext (.t 8) 0, none⟩,
  ⟨some 12, .ext (.t 8) 1, none⟩,
  ⟨some 4, .alloc [(.str (⟨#[]⟩ : ByteArray)), (.int .i64 0)], none⟩,
  ⟨none, .store 2 (.t 4) (.t 11), none⟩,
  ⟨some 5, .mov (.t 12), none⟩]
def r38_2 : List IOper := [⟨some 14, .load (some 2) (.t 4), none⟩,
  ⟨some 15, .callF 20 [(.t 14), (.c (.int .i64 11))], none⟩,
  ⟨some 13, .mov (.t 15), none⟩,
  ⟨some 16, .ext (.t 13) 0, none⟩,
  ⟨some 17, .ext (.t 13) 1, none⟩,
  ⟨some 6, .alloc [(.str (⟨#[]⟩ : ByteArray)), (.int .i64 0)], none⟩,
  ⟨none, .store 2 (.t 6) (.t 16), none⟩,
  ⟨some 7, .mov (.t 17), none⟩]
def r38_3 : List IOper := [⟨some 18, .fld 1 (.t 6), none⟩,
  ⟨some 19, .load none (.t 18), none⟩,
  ⟨some 20, .bin .eql (.t 19) (.c (.int .i64 0)), none⟩,
  ⟨some 21, .mov (.t 20), none⟩,
  ⟨some 22, .mov (.t 5), some (21, true)⟩,
  ⟨some 23, .bin .eql (.t 22) (.c (.int .u64 0)), some (21, true)⟩,
  ⟨some 24, .pick (.t 21) (.t 23) (.c (.bool false)), none⟩,
  ⟨some 25, .mov (.t 24), none⟩,
  ⟨some 26, .mov (.t 7), some (25, true)⟩,
  ⟨some 27, .bin .gtr (.t 26) (.c (.int .i64 0)), some (25, true)⟩,
  ⟨some 28, .pick (.t 25) (.t 27) (.c (.bool false)), none⟩]
def r38_4 : List IOper := [⟨some 29, .fld 1 (.t 6), none⟩,
  ⟨none, .store 1 (.t 29) (.c (.int .i64 4)), none⟩]
def r38_5 : List IOper := [⟨some 30, .fld 1 (.t 6), none⟩,
  ⟨some 31, .load none (.t 30), none⟩,
  ⟨some 32, .bin .neq (.t 31) (.c (.int .i64 0)), none⟩]
def r38_6 : List IOper := [⟨some 33, .load (some 2) (.t 6), none⟩,
  ⟨some 34, .build [(.int .u64 0), (.int .i64 0)] [], none⟩,
  ⟨none, .store 2 (.t 2) (.t 33), none⟩,
  ⟨none, .store 2 (.t 3) (.t 34), none⟩]
def r38_7 : List IOper := [⟨some 35, .load (some 2) (.t 6), none⟩,
  ⟨some 36, .mov (.t 5), none⟩,
  ⟨some 37, .mov (.t 7), none⟩,
  ⟨some 38, .build [(.int .u64 0), (.int .i64 0)] [(0, 1, (.t 36)), (1, 1, (.t 37))], none⟩,
  ⟨none, .store 2 (.t 2) (.t 35), none⟩,
  ⟨none, .store 2 (.t 3) (.t 38), none⟩]
def b38 : ICode :=
 (.seq (.reg [(0, false), (1, false), (2, false)] r38_0)
 (.seq (.reg [(0, false), (1, false), (2, false), (3, false), (4, false), (5, false), (6, false), (7, false)] r38_1)
 (.seq (.reg [(0, false), (1, false), (2, false), (3, false), (4, false), (5, false), (6, false), (7, false)] r38_2)
 (.seq (.seq (.reg [(0, false), (1, false), (2, false), (3, false), (4, false), (5, false), (6, false), (7, false), (8, false), (9, false), (10, false)] r38_3)
 (.seq (.cond (.t 28) (.reg [(0, false), (1, false)] r38_4)
 .skip) (.mask [2, 3, 5, 6, 7])))
 (.seq (.seq (.reg [(0, false), (1, false), (2, false)] r38_5)
 (.cond (.t 32) (.seq (.reg [(0, false), (1, false), (2, false), (3, false)] r38_6)
 .ret)
 .skip))
 (.seq (.reg [(0, false), (1, false), (2, false), (3, false), (4, false), (5, false)] r38_7)
 .ret))))))
def f38 : IFunc := { nt := 39, res := [((.t 2), some (some 2)), ((.t 3), some (some 2))], body := b38 }
def ps38 : List Phases := []
def ms38 : List (Option (List Nat)) := [some [2, 3, 5, 6, 7], none]
-- chatelaine/seal.Frame
def r39_0 : List IOper := [⟨some 4, .mov (.c (.str (⟨#[]⟩ : ByteArray))), none⟩]
def r39_1 : List IOper := [⟨some 6, .mov (.t 1), none⟩,
  ⟨some 7, .mov (.t 1), none⟩,
  ⟨some 8, .lenS (.t 7), none⟩,
  ⟨some 9, .mini [(.t 8), (.c (.int .i64 1048576))], none⟩,
  ⟨some 10, .slcStr (.t 6) none (some (.t 9)), none⟩,
  ⟨some 1, .mov (.t 10), none⟩]
def r39_2 : List IOper := [⟨some 11, .mov (.t 0), none⟩,
  ⟨some 12, .maxi [(.t 11), (.c (.int .u8 1))], none⟩,
  ⟨some 13, .buildS 1 1 [(.int .u8 0)] [(0, (.t 12))], none⟩,
  ⟨some 14, .b2s (.t 13), none⟩,
  ⟨some 15, .mov (.t 1), none⟩,
  ⟨some 16, .lenS (.t 15), none⟩,
  ⟨some 17, .conv .u32 (.t 16), none⟩,
  ⟨some 18, .callF 67 [(.t 17), (.c (.int .i64 3))], none⟩,
  ⟨some 19, .bin .add (.t 14) (.t 18), none⟩,
  ⟨some 20, .mov (.t 1), none⟩,
  ⟨some 21, .bin .add (.t 19) (.t 20), none⟩,
  ⟨some 5, .mov (.t 21), none⟩]
def r39_3 : List IOper := [⟨some 22, .mov (.t 5), none⟩,
  ⟨some 23, .mov (.t 5), none⟩,
  ⟨some 24, .buildS 1 1 [(.str (⟨#[]⟩ : ByteArray))] [(0, (.t 23))], none⟩,
  ⟨some 25, .callF 44 [(.t 24)], none⟩,
  ⟨some 26, .callF 67 [(.t 25), (.c (.int .i64 4))], none⟩,
  ⟨some 27, .bin .add (.t 22) (.t 26), none⟩,
  ⟨some 4, .mov (.t 27), none⟩]
def b39 : ICode :=
 (.seq (.reg [(0, false)] r39_0)
 (.seq (.reg [(0, false), (1, false), (2, false), (3, false), (4, false), (5, false)] r39_1)
 (.seq (.reg [(0, false), (1, false), (4, false), (5, false), (6, false), (9, false), (7, false), (2, false), (3, false), (8, false), (10, false), (11, false)] r39_2)
 (.seq (.reg [(0, false), (1, false), (2, false), (3, false), (4, false), (5, false), (6, false)] r39_3)
 .ret))))
def f39 : IFunc := { nt := 28, res := [((.t 4), none)], body := b39 }
def ps39 : List Phases := [⟨[([(0, false), (1, false), (4, false), (5, false), (6, false), (9, false)], 7)], [(2, false), (3, false), (8, false), (10, false), (11, false)]⟩]
def ms39 : List (Option (List Nat)) := []
-- (*chatelaine/code.Writer).N
def r40_0 : List IOper := [⟨some 4, .mov (.c .nilp), none⟩]
def r40_1 : List IOper := [⟨some 7, .mov (.t 1), none⟩,
  ⟨some 8, .lenL (.t 7), none⟩,
  ⟨some 9, .mov (.c (.int .i64 0)), none⟩]
def r40_2 : List IOper := [⟨some 10, .bin .lss (.t 9) (.t 8), none⟩]
def r40_3 : List IOper := [⟨some 11, .ixS 1 (.t 7) (.t 9), none⟩,
  ⟨some 12, .load none (.t 11), none⟩,
  ⟨some 6, .mov (.t 12), none⟩]
def r40_4 : List IOper := [⟨some 13, .mov (.t 0), none⟩,
  ⟨some 14, .mov (.t 6), none⟩,
  ⟨some 15, .maxi [(.t 14), (.c (.int .i64 0))], none⟩,
  ⟨some 16, .conv .u64 (.t 15), none⟩,
  ⟨some 17, .buildS 1 1 [(.int .u64 0)] [(0, (.t 16))], none⟩,
  ⟨some 18, .callF 30 [(.t 13), (.t 17)], none⟩]
def r40_5 : List IOper := [⟨some 19, .bin .add (.t 9) (.c (.int .i64 1)), none⟩,
  ⟨some 9, .mov (.t 19), none⟩]
def r40_6 : List IOper := [⟨some 20, .mov (.t 0), none⟩,
  ⟨some 4, .mov (.t 20), none⟩]
def b40 : ICode :=
 (.seq (.reg [(0, false)] r40_0)
 (.seq (.seq (.reg [(0, false), (1, false), (2, false)] r40_1)
 (.seq (.block 0 (.loop (.seq (.mask [0, 7, 8, 9]) (.seq (.reg [(0, false)] r40_2)
 (.seq (.cond (.t 10) .skip
 (.exit 0))
 (.seq (.seq (.block 1 (.seq (.reg [(0, false), (1, false), (2, false)] r40_3)
 (.reg [(0, false), (1, false), (2, false), (3, false), (4, false), (5, false)] r40_4))) (.mask [0, 7, 8, 9]))
 (.reg [(0, false), (1, false)] r40_5))))))) (.mask [0])))
 (.seq (.reg [(0, false), (1, false)] r40_6)
 .ret)))
def f40 : IFunc := { nt := 21, res := [((.t 4), none)], body := b40 }
def ps40 : List Phases := []
def ms40 : List (Option (List Nat)) := [some [0, 7, 8, 9], none, some [0, 7, 8, 9], some [0]]
-- (*chatelaine/code.Writer).S
def r41_0 : List IOper := [⟨some 4, .mov (.c .nilp), none⟩]
def r41_1 : List IOper := [⟨some 7, .mov (.t 1), none⟩,
  ⟨some 8, .lenL (.t 7), none⟩,
  ⟨some 9, .mov (.c (.int .i64 0)), none⟩]
def r41_2 : List IOper := [⟨some 10, .bin .lss (.t 9) (.t 8), none⟩]
def r41_3 : List IOper := [⟨some 11, .ixS 1 (.t 7) (.t 9), none⟩,
  ⟨some 12, .load none (.t 11), none⟩,
  ⟨some 6, .mov (.t 12), none⟩]
def r41_4 : List IOper := [⟨some 13, .mov (.t 0), none⟩,
  ⟨some 14, .mov (.t 6), none⟩,
  ⟨some 15, .lenS (.t 14), none⟩,
  ⟨some 16, .buildS 1 1 [(.int .i64 0)] [(0, (.t 15))], none⟩,
  ⟨some 17, .callF 40 [(.t 13), (.t 16)], none⟩]
def r41_5 : List IOper := [⟨some 18, .mov (.t 0), none⟩,
  ⟨some 19, .mov (.t 0), none⟩,
  ⟨some 20, .nilck (.t 19), none⟩,
  ⟨some 21, .fld 0 (.t 20), none⟩,
  ⟨some 22, .load none (.t 21), none⟩,
  ⟨some 23, .mov (.t 6), none⟩,
  ⟨some 24, .app 1 1 (.t 22) (.t 23), none⟩,
  ⟨some 25, .nilck (.t 18), none⟩,
  ⟨some 26, .fld 0 (.t 25), none⟩,
  ⟨none, .store 1 (.t 26) (.t 24), none⟩]
def r41_6 : List IOper := [⟨some 27, .bin .add (.t 9) (.c (.int .i64 1)), none⟩,
  ⟨some 9, .mov (.t 27), none⟩]
def r41_7 : List IOper := [⟨some 28, .mov (.t 0), none⟩,
  ⟨some 4, .mov (.t 28), none⟩]
def b41 : ICode :=
 (.seq (.reg [(0, false)] r41_0)
 (.seq (.seq (.reg [(0, false), (1, false), (2, false)] r41_1)
 (.seq (.block 0 (.loop (.seq (.mask [0, 7, 8, 9]) (.seq (.reg [(0, false)] r41_2)
 (.seq (.cond (.t 10) .skip
 (.exit 0))
 (.seq (.seq (.block 1 (.seq (.reg [(0, false), (1, false), (2, false)] r41_3)
 (.seq (.reg [(0, false), (1, false), (2, false), (3, false), (4, false)] r41_4)
 (.reg [(0, false), (1, false), (2, false), (3, false), (4, false), (5, false), (6, false), (7, false), (8, false), (9, false)] r41_5)))) (.mask [0, 7, 8, 9]))
 (.reg [(0, false), (1, false)] r41_6))))))) (.mask [0])))
 (.seq (.reg [(0, false), (1, false)] r41_7)
 .ret)))
def f41 : IFunc := { nt := 29, res := [((.t 4), none)], body := b41 }
def ps41 : List Phases := []
def ms41 : List (Option (List Nat)) := [some [0, 7, 8, 9], none, some [0, 7, 8, 9], some [0]]
-- (*chatelaine/code.Writer).B
def r42_0 : List IOper := [⟨some 4, .mov (.c .nilp), none⟩]
def r42_1 : List IOper := [⟨some 8, .mov (.t 1), none⟩,
  ⟨some 9, .lenL (.t 8), none⟩,
  ⟨some 10, .mov (.c (.int .i64 0)), none⟩]
def r42_2 : List IOper := [⟨some 11, .bin .lss (.t 10) (.t 9), none⟩]
def r42_3 : List IOper := [⟨some 12, .ixS 1 (.t 8) (.t 10), none⟩,
  ⟨some 13, .load none (.t 12), none⟩,
  ⟨some 6, .mov (.t 13), none⟩]
def r42_4 : List IOper := [⟨some 7, .mov (.c (.int .u8 0)), none⟩]
def r42_5 : List IOper := [⟨some 14, .mov (.t 6), none⟩]
def r42_6 : List IOper := [⟨some 7, .mov (.c (.int .u8 1)), none⟩]
def r42_7 : List IOper := [⟨some 15, .mov (.t 0), none⟩,
  ⟨some 16, .mov (.t 0), none⟩,
  ⟨some 17, .nilck (.t 16), none⟩,
  ⟨some 18, .fld 0 (.t 17), none⟩,
  ⟨some 19, .load none (.t 18), none⟩,
  ⟨some 20, .mov (.t 7), none⟩,
  ⟨some 21, .buildS 1 1 [(.int .u8 0)] [(0, (.t 20))], none⟩,
  ⟨some 22, .app 1 1 (.t 19) (.t 21), none⟩,
  ⟨some 23, .nilck (.t 15), none⟩,
  ⟨some 24, .fld 0 (.t 23), none⟩,
  ⟨none, .store 1 (.t 24) (.t 22), none⟩]
def r42_8 : List IOper := [⟨some 25, .bin .add (.t 10) (.c (.int .i64 1)), none⟩,
  ⟨some 10, .mov (.t 25), none⟩]
def r42_9 : List IOper := [⟨some 26, .mov (.t 0), none⟩,
  ⟨some 4, .mov (.t 26), none⟩]
def b42 : ICode :=
 (.seq (.reg [(0, false)] r42_0)
 (.seq (.seq (.reg [(0, false), (1, false), (2, false)] r42_1)
 (.seq (.block 0 (.loop (.seq (.mask [0, 8, 9, 10]) (.seq (.reg [(0, false)] r42_2)
 (.seq (.cond (.t 11) .skip
 (.exit 0))
 (.seq (.seq (.block 1 (.seq (.reg [(0, false), (1, false), (2, false)] r42_3)
 (.seq (.reg [(0, false)] r42_4)
 (.seq (.seq (.reg [(0, false)] r42_5)
 (.seq (.cond (.t 14) (.reg [(0, false)] r42_6)
 .skip) (.mask [0, 7, 8, 9, 10])))
 (.reg [(0, false), (1, false), (2, false), (3, false), (4, false), (5, false), (6, false), (7, false), (8, false), (9, false), (10, false)] r42_7))))) (.mask [0, 8, 9, 10]))
 (.reg [(0, false), (1, false)] r42_8))))))) (.mask [0])))
 (.seq (.reg [(0, false), (1, false)] r42_9)
 .ret)))
def f42 : IFunc := { nt := 27, res := [((.t 4), none)], body := b42 }
def ps42 : List Phases := []
def ms42 : List (Option (List Nat)) := [some [0, 8, 9, 10], none, some [0, 7, 8, 9, 10], some [0, 8, 9, 10], some [0]]
-- chatelaine/seal.Sum
def r44_0 : List IOper := [⟨some 2, .mov (.c (.int .u32 0)), none⟩]
def r44_1 : List IOper := [⟨some 3, .mov (.c (.int .u32 4294967295)), none⟩]
def r44_2 : List IOper := [⟨some 7, .mov (.t 0), none⟩,
  ⟨some 8, .lenL (.t 7), none⟩,
  ⟨some 9, .mov (.c (.int .i64 0)), none⟩]
def r44_3 : List IOper := [⟨some 10, .bin .lss (.t 9) (.t 8), none⟩]
def r44_4 : List IOper := [⟨some 11, .ixS 1 (.t 7) (.t 9), none⟩,
  ⟨some 12, .load none (.t 11), none⟩,
  ⟨some 5, .mov (.t 12), none⟩]
def r44_5 : List IOper := [⟨some 13, .mov (.t 5), none⟩,
  ⟨some 14, .lenS (.t 13), none⟩,
  ⟨some 15, .mov (.c (.int .i64 0)), none⟩]
def r44_6 : List IOper := [⟨some 16, .bin .lss (.t 15) (.t 14), none⟩]
def r44_7 : List IOper := [⟨some 17, .mov (.t 15), none⟩,
  ⟨some 6, .mov (.t 17), none⟩]
def r44_8 : List IOper := [⟨some 18, .mov (.t 3), none⟩,
  ⟨some 19, .mov (.t 5), none⟩,
  ⟨some 20, .mov (.t 6), none⟩,
  ⟨some 21, .ixStr (.t 19) (.t 20), none⟩,
  ⟨some 22, .callF 69 [(.t 18), (.t 21)], none⟩,
  ⟨some 3, .mov (.t 22), none⟩]
def r44_9 : List IOper := [⟨some 23, .bin .add (.t 15) (.c (.int .i64 1)), none⟩,
  ⟨some 15, .mov (.t 23), none⟩]
def r44_10 : List IOper := [⟨some 24, .bin .add (.t 9) (.c (.int .i64 1)), none⟩,
  ⟨some 9, .mov (.t 24), none⟩]
def r44_11 : List IOper := [⟨some 25, .mov (.t 3), none⟩,
  ⟨some 26, .un .xor (.t 25), none⟩,
  ⟨some 2, .mov (.t 26), none⟩]
def b44 : ICode :=
 (.seq (.reg [(0, false)] r44_0)
 (.seq (.reg [(0, false)] r44_1)
 (.seq (.seq (.reg [(0, false), (1, false), (2, false)] r44_2)
 (.seq (.block 0 (.loop (.seq (.mask [3, 7, 8, 9]) (.seq (.reg [(0, false)] r44_3)
 (.seq (.cond (.t 10) .skip
 (.exit 0))
 (.seq (.seq (.block 1 (.seq (.reg [(0, false), (1, false), (2, false)] r44_4)
 (.seq (.reg [(0, false), (1, false), (2, false)] r44_5)
 (.seq (.block 2 (.loop (.seq (.mask [3, 5, 7, 8, 9, 14, 15]) (.seq (.reg [(0, false)] r44_6)
 (.seq (.cond (.t 16) .skip
 (.exit 2))
 (.seq (.seq (.block 3 (.seq (.reg [(0, false), (1, false)] r44_7)
 (.reg [(0, false), (1, false), (2, false), (3, false), (4, false), (5, false)] r44_8))) (.mask [3, 5, 7, 8, 9, 14, 15]))
 (.reg [(0, false), (1, false)] r44_9))))))) (.mask [3, 7, 8, 9]))))) (.mask [3, 7, 8, 9]))
 (.reg [(0, false), (1, false)] r44_10))))))) (.mask [3])))
 (.seq (.reg [(0, false), (1, false), (2, false)] r44_11)
 .ret))))
def f44 : IFunc := { nt := 27, res := [((.t 2), none)], body := b44 }
def ps44 : List Phases := []
def ms44 : List (Option (List Nat)) := [some [3, 7, 8, 9], none, some [3, 5, 7, 8, 9, 14, 15], none, some [3, 5, 7, 8, 9, 14, 15], some [3, 7, 8, 9], some [3, 7, 8, 9], some [3]]
-- chatelaine/chatelainelaw10.awake
def r45_0 : List IOper := [⟨some 0, .mov (.c (.bool false)), none⟩]
def r45_1 : List IOper := [⟨some 2, .build [(.int .u64 0), (.int .i64 0)] [(0, 1, (.c (.int .u64 1))), (1, 1, (.c (.int .i64 1)))], none⟩,
  ⟨some 3, .build [(.int .i64 0), (.int .i64 0), (.int .i64 0), (.int .i64 0), (.int .u64 0), (.int .i64 0), (.int .i64 0), (.int .i64 0), (.bool false), (.str (⟨#[]⟩ : ByteArray)), .nils] [(0, 1, (.c (.int .i64 1))), (1, 1, (.c (.int .i64 1))), (2, 1, (.c (.int .i64 2))), (4, 2, (.t 2))], none⟩,
  ⟨some 4, .callF 50 [(.t 3)], none⟩,
  ⟨some 1, .mov (.t 4), none⟩]
def r45_2 : List IOper := [⟨some 5, .mov (.t 1), none⟩,
  ⟨some 6, .lenS (.t 5), none⟩,
  ⟨some 7, .bin .eql (.t 6) (.c (.int .i64 18)), none⟩,
  ⟨some 8, .mov (.t 7), none⟩,
  ⟨some 9, .mov (.t 1), some (8, true)⟩,
  ⟨some 10, .slcStr (.t 9) none (some (.c (.int .i64 14))), some (8, true)⟩,
  ⟨some 11, .bin .eql (.t 10) (.c (.str (⟨#[1, 0, 0, 10, 1, 2, 0, 1, 1, 0, 0, 0, 0, 0]⟩ : ByteArray))), some (8, true)⟩,
  ⟨some 12, .pick (.t 8) (.t 11) (.c (.bool false)), none⟩,
  ⟨some 0, .mov (.t 12), none⟩]
def b45 : ICode :=
 (.seq (.reg [(0, false)] r45_0)
 (.seq (.reg [(0, false), (1, false), (2, false), (3, false)] r45_1)
 (.seq (.reg [(0, false), (1, false), (2, false), (3, false), (4, false), (5, false), (6, false), (7, false), (8, false)] r45_2)
 .ret)))
def f45 : IFunc := { nt := 13, res := [((.t 0), none)], body := b45 }
def ps45 : List Phases := []
def ms45 : List (Option (List Nat)) := []
-- chatelaine/chatelainelaw10.Own
def r47_0 : List IOper := [⟨some 1, .box 11 (.t 0), none⟩,
  ⟨some 2, .alloc [(.int .i64 0), (.int .i64 0), (.int .i64 0), (.int .i64 0), (.int .u64 0), (.int .i64 0), (.int .i64 0), (.int .i64 0), (.bool false), (.str (⟨#[]⟩ : ByteArray)), .nils], none⟩]
def r47_1 : List IOper := [⟨some 6, .fld 0 (.t 1), none⟩,
  ⟨some 7, .load none (.t 6), none⟩,
  ⟨some 8, .fld 1 (.t 1), none⟩,
  ⟨some 9, .load none (.t 8), none⟩,
  ⟨some 10, .fld 2 (.t 1), none⟩,
  ⟨some 11, .load none (.t 10), none⟩,
  ⟨some 12, .fld 3 (.t 1), none⟩,
  ⟨some 13, .load none (.t 12), none⟩,
  ⟨some 14, .fld 4 (.t 1), none⟩,
  ⟨some 15, .load (some 2) (.t 14), none⟩,
  ⟨some 16, .fld 6 (.t 1), none⟩,
  ⟨some 17, .load none (.t 16), none⟩,
  ⟨some 18, .fld 7 (.t 1), none⟩,
  ⟨some 19, .load none (.t 18), none⟩,
  ⟨some 20, .fld 8 (.t 1), none⟩,
  ⟨some 21, .load none (.t 20), none⟩,
  ⟨some 22, .fld 9 (.t 1), none⟩,
  ⟨some 23, .load none (.t 22), none⟩,
  ⟨some 24, .build [(.int .i64 0), (.int .i64 0), (.int .i64 0), (.int .i64 0), (.int .u64 0), (.int .i64 0), (.int .i64 0), (.int .i64 0), (.bool false), (.str (⟨#[]⟩ : ByteArray)), .nils] [(0, 1, (.t 7)), (1, 1, (.t 9)), (2, 1, (.t 11)), (3, 1, (.t 13)), (4, 2, (.t 15)), (6, 1, (.t 17)), (7, 1, (.t 19)), (8, 1, (.t 21)), (9, 1, (.t 23))], none⟩,
  ⟨some 3, .alloc [(.int .i64 0), (.int .i64 0), (.int .i64 0), (.int .i64 0), (.int .u64 0), (.int .i64 0), (.int .i64 0), (.int .i64 0), (.bool false), (.str (⟨#[]⟩ : ByteArray)), .nils], none⟩,
  ⟨none, .store 11 (.t 3) (.t 24), none⟩]
def r47_2 : List IOper := [⟨some 25, .fld 10 (.t 1), none⟩,
  ⟨some 26, .load none (.t 25), none⟩,
  ⟨some 27, .lenL (.t 26), none⟩,
  ⟨some 28, .mov (.c (.int .i64 0)), none⟩]
def r47_3 : List IOper := [⟨some 29, .bin .lss (.t 28) (.t 27), none⟩]
def r47_4 : List IOper := [⟨some 30, .ixS 4 (.t 26) (.t 28), none⟩,
  ⟨some 31, .load (some 4) (.t 30), none⟩,
  ⟨some 5, .alloc [(.int .i64 0), (.int .u64 0), (.int .i64 0), (.str (⟨#[]⟩ : ByteArray))], none⟩,
  ⟨none, .store 4 (.t 5) (.t 31), none⟩]
def r47_5 : List IOper := [⟨some 32, .fld 10 (.t 3), none⟩,
  ⟨some 33, .load none (.t 32), none⟩,
  ⟨some 34, .fld 0 (.t 5), none⟩,
  ⟨some 35, .load none (.t 34), none⟩,
  ⟨some 36, .fld 1 (.t 5), none⟩,
  ⟨some 37, .load (some 2) (.t 36), none⟩,
  ⟨some 38, .fld 3 (.t 5), none⟩,
  ⟨some 39, .load none (.t 38), none⟩,
  ⟨some 40, .build [(.int .i64 0), (.int .u64 0), (.int .i64 0), (.str (⟨#[]⟩ : ByteArray))] [(0, 1, (.t 35)), (1, 2, (.t 37)), (3, 1, (.t 39))], none⟩,
  ⟨some 41, .buildS 4 1 [(.int .i64 0), (.int .u64 0), (.int .i64 0), (.str (⟨#[]⟩ : ByteArray))] [(0, (.t 40))], none⟩,
  ⟨some 42, .app 4 40 (.t 33) (.t 41), none⟩,
  ⟨some 43, .fld 10 (.t 3), none⟩,
  ⟨none, .store 1 (.t 43) (.t 42), none⟩]
def r47_6 : List IOper := [⟨some 44, .bin .add (.t 28) (.c (.int .i64 1)), none⟩,
  ⟨some 28, .mov (.t 44), none⟩]
def r47_7 : List IOper := [⟨some 45, .load (some 11) (.t 3), none⟩,
  ⟨none, .store 11 (.t 2) (.t 45), none⟩]
def b47 : ICode :=
 (.seq (.reg [(0, false), (1, false)] r47_0)
 (.seq (.reg [(0, false), (1, false), (2, false), (3, false), (4, false), (5, false), (6, false), (7, false), (8, false), (9, false), (10, false), (11, false), (12, false), (13, false), (14, false), (15, false), (16, false), (17, false), (18, false), (19, false), (20, false)] r47_1)
 (.seq (.seq (.reg [(0, false), (1, false), (2, false), (3, false)] r47_2)
 (.seq (.block 0 (.loop (.seq (.mask [2, 3, 26, 27, 28]) (.seq (.reg [(0, false)] r47_3)
 (.seq (.cond (.t 29) .skip
 (.exit 0))
 (.seq (.seq (.block 1 (.seq (.reg [(0, false), (1, false), (2, false), (3, false)] r47_4)
 (.reg [(0, false), (1, false), (2, false), (3, false), (4, false), (5, false), (6, false), (7, false), (8, false), (9, false), (10, false), (11, false), (12, false)] r47_5))) (.mask [2, 3, 26, 27, 28]))
 (.reg [(0, false), (1, false)] r47_6))))))) (.mask [2, 3])))
 (.seq (.reg [(0, false), (1, false)] r47_7)
 .ret))))
def f47 : IFunc := { nt := 46, res := [((.t 2), some (some 11))], body := b47 }
def ps47 : List Phases := []
def ms47 : List (Option (List Nat)) := [some [2, 3, 26, 27, 28], none, some [2, 3, 26, 27, 28], some [2, 3]]
-- (chatelaine/msg.Msg).Check
def r49_0 : List IOper := [⟨some 1, .box 11 (.t 0), none⟩,
  ⟨some 2, .mov (.c (.int .i64 0)), none⟩]
def r49_1 : List IOper := [⟨some 4, .fld 0 (.t 1), none⟩,
  ⟨some 5, .load none (.t 4), none⟩,
  ⟨some 6, .bin .lss (.t 5) (.c (.int .i64 1)), none⟩,
  ⟨some 7, .mov (.t 6), none⟩,
  ⟨some 8, .fld 0 (.t 1), some (7, false)⟩,
  ⟨some 9, .load none (.t 8), some (7, false)⟩,
  ⟨some 10, .bin .gtr (.t 9) (.c (.int .i64 13)), some (7, false)⟩,
  ⟨some 11, .pick (.t 7) (.c (.bool true)) (.t 10), none⟩,
  ⟨some 3, .mov (.t 11), none⟩]
def r49_2 : List IOper := [⟨some 2, .mov (.c (.int .i64 1)), none⟩]
def r49_3 : List IOper := [⟨some 13, .load (some 11) (.t 1), none⟩,
  ⟨some 14, .callF 72 [(.t 13)], none⟩,
  ⟨some 15, .un .not (.t 14), none⟩,
  ⟨some 12, .mov (.t 15), none⟩]
def r49_4 : List IOper := [⟨some 2, .mov (.c (.int .i64 2)), none⟩]
def r49_5 : List IOper := [⟨some 17, .load (some 11) (.t 1), none⟩,
  ⟨some 18, .callF 73 [(.t 17)], none⟩,
  ⟨some 16, .mov (.t 18), none⟩]
def r49_6 : List IOper := [⟨some 2, .mov (.c (.int .i64 6)), none⟩]
def r49_7 : List IOper := [⟨some 20, .load (some 11) (.t 1), none⟩,
  ⟨some 21, .callF 74 [(.t 20)], none⟩,
  ⟨some 22, .un .not (.t 21), none⟩,
  ⟨some 19, .mov (.t 22), none⟩]
def r49_8 : List IOper := [⟨some 2, .mov (.c (.int .i64 4)), none⟩]
def r49_9 : List IOper := [⟨some 2, .mov (.c (.int .i64 0)), none⟩]
def b49 : ICode :=
 (.seq (.reg [(0, false), (1, false)] r49_0)
 (.seq (.seq (.block 0 (.seq (.reg [(0, false), (1, false), (2, false), (3, false), (4, false), (5, false), (6, false), (7, false), (8, false)] r49_1)
 (.cond (.t 3) (.seq (.reg [(0, false)] r49_2)
 .ret)
 (.seq (.reg [(0, false), (1, false), (2, false), (3, false)] r49_3)
 (.cond (.t 12) (.seq (.reg [(0, false)] r49_4)
 .ret)
 (.seq (.reg [(0, false), (1, false), (2, false)] r49_5)
 (.cond (.t 16) (.seq (.reg [(0, false)] r49_6)
 .ret)
 (.seq (.reg [(0, false), (1, false), (2, false), (3, false)] r49_7)
 (.cond (.t 19) (.seq (.reg [(0, false)] r49_8)
 .ret)
 .skip))))))))) (.mask []))
 (.seq (.reg [(0, false)] r49_9)
 .ret)))
def f49 : IFunc := { nt := 23, res := [((.t 2), none)], body := b49 }
def ps49 : List Phases := []
def ms49 : List (Option (List Nat)) := [none, none, none, none, some []]
-- (chatelaine/msg.Msg).Bytes
def r50_0 : List IOper := [⟨some 1, .box 11 (.t 0), none⟩,
  ⟨some 2, .mov (.c (.str (⟨#[]⟩ : ByteArray))), none⟩]
def r50_1 : List IOper := [⟨some 6, .load (some 11) (.t 1), none⟩,
  ⟨some 7, .callF 49 [(.t 6)], none⟩,
  ⟨some 8, .bin .neq (.t 7) (.c (.int .i64 0)), none⟩]
def r50_2 : List IOper := [⟨some 2, .mov (.c (.str (⟨#[]⟩ : ByteArray))), none⟩]
def r50_3 : List IOper := [⟨some 9, .build [.nils] [], none⟩,
  ⟨some 10, .box 1 (.t 9), none⟩,
  ⟨some 3, .mov (.t 10), none⟩]
def r50_4 : List IOper := [⟨some 11, .mov (.t 3), none⟩,
  ⟨some 12, .fld 1 (.t 1), none⟩,
  ⟨some 13, .load none (.t 12), none⟩,
  ⟨some 14, .fld 2 (.t 1), none⟩,
  ⟨some 15, .load none (.t 14), none⟩,
  ⟨some 16, .fld 3 (.t 1), none⟩,
  ⟨some 17, .load none (.t 16), none⟩,
  ⟨some 18, .buildS 1 3 [(.int .i64 0)] [(0, (.t 13)), (1, (.t 15)), (2, (.t 17))], none⟩,
  ⟨some 19, .callF 40 [(.t 11), (.t 18)], none⟩]
def r50_5 : List IOper := [⟨some 20, .fld 4 (.t 1), none⟩,
  ⟨some 21, .load (some 2) (.t 20), none⟩,
  ⟨some 22, .mov (.t 3), none⟩,
  ⟨some 23, .callF 35 [(.t 21), (.t 22)], none⟩]
def r50_6 : List IOper := [⟨some 24, .mov (.t 3), none⟩,
  ⟨some 25, .fld 6 (.t 1), none⟩,
  ⟨some 26, .load none (.t 25), none⟩,
  ⟨some 27, .fld 7 (.t 1), none⟩,
  ⟨some 28, .load none (.t 27), none⟩,
  ⟨some 29, .buildS 1 2 [(.int .i64 0)] [(0, (.t 26)), (1, (.t 28))], none⟩,
  ⟨some 30, .callF 40 [(.t 24), (.t 29)], none⟩,
  ⟨some 31, .fld 8 (.t 1), none⟩,
  ⟨some 32, .load none (.t 31), none⟩,
  ⟨some 33, .buildS 1 1 [(.bool false)] [(0, (.t 32))], none⟩,
  ⟨some 34, .callF 42 [(.t 30), (.t 33)], none⟩,
  ⟨some 35, .fld 9 (.t 1), none⟩,
  ⟨some 36, .load none (.t 35), none⟩,
  ⟨some 37, .buildS 1 1 [(.str (⟨#[]⟩ : ByteArray))] [(0, (.t 36))], none⟩,
  ⟨some 38, .callF 41 [(.t 34), (.t 37)], none⟩,
  ⟨some 39, .fld 10 (.t 1), none⟩,
  ⟨some 40, .load none (.t 39), none⟩,
  ⟨some 41, .lenL (.t 40), none⟩,
  ⟨some 42, .buildS 1 1 [(.int .i64 0)] [(0, (.t 41))], none⟩,
  ⟨some 43, .callF 40 [(.t 38), (.t 42)], none⟩]
def r50_7 : List IOper := [⟨some 44, .fld 10 (.t 1), none⟩,
  ⟨some 45, .load none (.t 44), none⟩,
  ⟨some 46, .lenL (.t 45), none⟩,
  ⟨some 47, .mov (.c (.int .i64 0)), none⟩]
def r50_8 : List IOper := [⟨some 48, .bin .lss (.t 47) (.t 46), none⟩]
def r50_9 : List IOper := [⟨some 49, .ixS 4 (.t 45) (.t 47), none⟩,
  ⟨some 50, .load (some 4) (.t 49), none⟩,
  ⟨some 5, .alloc [(.int .i64 0), (.int .u64 0), (.int .i64 0), (.str (⟨#[]⟩ : ByteArray))], none⟩,
  ⟨none, .store 4 (.t 5) (.t 50), none⟩]
def r50_10 : List IOper := [⟨some 51, .mov (.t 3), none⟩,
  ⟨some 52, .fld 0 (.t 5), none⟩,
  ⟨some 53, .load none (.t 52), none⟩,
  ⟨some 54, .buildS 1 1 [(.int .i64 0)] [(0, (.t 53))], none⟩,
  ⟨some 55, .callF 40 [(.t 51), (.t 54)], none⟩]
def r50_11 : List IOper := [⟨some 56, .fld 1 (.t 5), none⟩,
  ⟨some 57, .load (some 2) (.t 56), none⟩,
  ⟨some 58, .mov (.t 3), none⟩,
  ⟨some 59, .callF 35 [(.t 57), (.t 58)], none⟩]
def r50_12 : List IOper := [⟨some 60, .mov (.t 3), none⟩,
  ⟨some 61, .fld 3 (.t 5), none⟩,
  ⟨some 62, .load none (.t 61), none⟩,
  ⟨some 63, .buildS 1 1 [(.str (⟨#[]⟩ : ByteArray))] [(0, (.t 62))], none⟩,
  ⟨some 64, .callF 41 [(.t 60), (.t 63)], none⟩]
def r50_13 : List IOper := [⟨some 65, .bin .add (.t 47) (.c (.int .i64 1)), none⟩,
  ⟨some 47, .mov (.t 65), none⟩]
def r50_14 : List IOper := [⟨some 66, .fld 0 (.t 1), none⟩,
  ⟨some 67, .load none (.t 66), none⟩,
  ⟨some 68, .conv .u8 (.t 67), none⟩,
  ⟨some 69, .mov (.t 3), none⟩,
  ⟨some 70, .callF 31 [(.t 69)], none⟩,
  ⟨some 71, .callF 39 [(.t 68), (.t 70)], none⟩,
  ⟨some 2, .mov (.t 71), none⟩]
def b50 : ICode :=
 (.seq (.reg [(0, false), (1, false)] r50_0)
 (.seq (.seq (.reg [(0, false), (1, false), (2, false)] r50_1)
 (.cond (.t 8) (.seq (.reg [(0, false)] r50_2)
 .ret)
 .skip))
 (.seq (.reg [(0, false), (1, false), (2, false)] r50_3)
 (.seq (.reg [(0, false), (1, false), (2, false), (3, false), (4, false), (5, false), (6, false), (7, false), (8, false)] r50_4)
 (.seq (.reg [(0, false), (1, false), (2, false), (3, false)] r50_5)
 (.seq (.reg [(0, false), (1, false), (2, false), (3, false), (4, false), (7, false), (8, false), (11, false), (12, false), (15, false), (16, false), (17, false), (5, false), (6, false), (8, true), (12, true), (16, true), (9, false), (10, false), (12, true), (16, true), (13, false), (14, false), (16, true), (18, false), (19, false)] r50_6)
 (.seq (.seq (.reg [(0, false), (1, false), (2, false), (3, false)] r50_7)
 (.seq (.block 0 (.loop (.seq (.mask [1, 3, 45, 46, 47]) (.seq (.reg [(0, false)] r50_8)
 (.seq (.cond (.t 48) .skip
 (.exit 0))
 (.seq (.seq (.block 1 (.seq (.reg [(0, false), (1, false), (2, false), (3, false)] r50_9)
 (.seq (.reg [(0, false), (1, false), (2, false), (3, false), (4, false)] r50_10)
 (.seq (.reg [(0, false), (1, false), (2, false), (3, false)] r50_11)
 (.reg [(0, false), (1, false), (2, false), (3, false), (4, false)] r50_12))))) (.mask [1, 3, 45, 46, 47]))
 (.reg [(0, false), (1, false)] r50_13))))))) (.mask [1, 3])))
 (.seq (.reg [(0, false), (1, false), (2, false), (3, false), (4, false), (1, true), (5, false), (6, false)] r50_14)
 .ret))))))))
def f50 : IFunc := { nt := 72, res := [((.t 2), none)], body := b50 }
def ps50 : List Phases := [⟨[([(0, false), (1, false), (2, false), (3, false), (4, false), (7, false), (8, false), (11, false), (12, false), (15, false), (16, false), (17, false), (5, false)], 6), ([(8, true), (12, true), (16, true), (9, false)], 10), ([(12, true), (16, true), (13, false)], 14), ([(16, true), (18, false)], 19)], []⟩, ⟨[([(0, false), (1, false), (2, false), (3, false)], 4), ([(1, true)], 5)], [(6, false)]⟩]
def ms50 : List (Option (List Nat)) := [none, some [1, 3, 45, 46, 47], none, some [1, 3, 45, 46, 47], some [1, 3]]
-- chatelaine/msg.Same
def r52_0 : List IOper := [⟨some 2, .box 11 (.t 0), none⟩,
  ⟨some 3, .box 11 (.t 1), none⟩,
  ⟨some 4, .mov (.c (.bool false)), none⟩]
def r52_1 : List IOper := [⟨some 5, .fld 0 (.t 2), none⟩,
  ⟨some 6, .load none (.t 5), none⟩,
  ⟨some 7, .fld 0 (.t 3), none⟩,
  ⟨some 8, .load none (.t 7), none⟩,
  ⟨some 9, .bin .eql (.t 6) (.t 8), none⟩,
  ⟨some 10, .mov (.t 9), none⟩,
  ⟨some 11, .fld 1 (.t 2), some (10, true)⟩,
  ⟨some 12, .load none (.t 11), some (10, true)⟩,
  ⟨some 13, .fld 1 (.t 3), some (10, true)⟩,
  ⟨some 14, .load none (.t 13), some (10, true)⟩,
  ⟨some 15, .bin .eql (.t 12) (.t 14), some (10, true)⟩,
  ⟨some 16, .pick (.t 10) (.t 15) (.c (.bool false)), none⟩,
  ⟨some 17, .mov (.t 16), none⟩,
  ⟨some 18, .fld 2 (.t 2), some (17, true)⟩,
  ⟨some 19, .load none (.t 18), some (17, true)⟩,
  ⟨some 20, .fld 2 (.t 3), some (17, true)⟩,
  ⟨some 21, .load none (.t 20), some (17, true)⟩,
  ⟨some 22, .bin .eql (.t 19) (.t 21), some (17, true)⟩,
  ⟨some 23, .pick (.t 17) (.t 22) (.c (.bool false)), none⟩,
  ⟨some 24, .mov (.t 23), none⟩,
  ⟨some 25, .fld 3 (.t 2), some (24, true)⟩,
  ⟨some 26, .load none (.t 25), some (24, true)⟩,
  ⟨some 27, .fld 3 (.t 3), some (24, true)⟩,
  ⟨some 28, .load none (.t 27), some (24, true)⟩,
  ⟨some 29, .bin .eql (.t 26) (.t 28), some (24, true)⟩,
  ⟨some 30, .pick (.t 24) (.t 29) (.c (.bool false)), none⟩,
  ⟨some 31, .mov (.t 30), none⟩,
  ⟨some 32, .fld 4 (.t 2), some (31, true)⟩,
  ⟨some 33, .load (some 2) (.t 32), some (31, true)⟩,
  ⟨some 34, .fld 4 (.t 3), some (31, true)⟩,
  ⟨some 35, .load (some 2) (.t 34), some (31, true)⟩,
  ⟨some 36, .eqs false [1, 1] (.t 33) (.t 35), some (31, true)⟩,
  ⟨some 37, .pick (.t 31) (.t 36) (.c (.bool false)), none⟩,
  ⟨some 38, .mov (.t 37), none⟩,
  ⟨some 39, .fld 6 (.t 2), some (38, true)⟩,
  ⟨some 40, .load none (.t 39), some (38, true)⟩,
  ⟨some 41, .fld 6 (.t 3), some (38, true)⟩,
  ⟨some 42, .load none (.t 41), some (38, true)⟩,
  ⟨some 43, .bin .eql (.t 40) (.t 42), some (38, true)⟩,
  ⟨some 44, .pick (.t 38) (.t 43) (.c (.bool false)), none⟩,
  ⟨some 45, .mov (.t 44), none⟩,
  ⟨some 46, .fld 7 (.t 2), some (45, true)⟩,
  ⟨some 47, .load none (.t 46), some (45, true)⟩,
  ⟨some 48, .fld 7 (.t 3), some (45, true)⟩,
  ⟨some 49, .load none (.t 48), some (45, true)⟩,
  ⟨some 50, .bin .eql (.t 47) (.t 49), some (45, true)⟩,
  ⟨some 51, .pick (.t 45) (.t 50) (.c (.bool false)), none⟩,
  ⟨some 52, .mov (.t 51), none⟩,
  ⟨some 53, .fld 8 (.t 2), some (52, true)⟩,
  ⟨some 54, .load none (.t 53), some (52, true)⟩,
  ⟨some 55, .fld 8 (.t 3), some (52, true)⟩,
  ⟨some 56, .load none (.t 55), some (52, true)⟩,
  ⟨some 57, .eqn 0 false (.t 54) (.t 56), some (52, true)⟩,
  ⟨some 58, .pick (.t 52) (.t 57) (.c (.bool false)), none⟩,
  ⟨some 59, .mov (.t 58), none⟩,
  ⟨some 60, .fld 9 (.t 2), some (59, true)⟩,
  ⟨some 61, .load none (.t 60), some (59, true)⟩,
  ⟨some 62, .fld 9 (.t 3), some (59, true)⟩,
  ⟨some 63, .load none (.t 62), some (59, true)⟩,
  ⟨some 64, .bin .eql (.t 61) (.t 63), some (59, true)⟩,
  ⟨some 65, .pick (.t 59) (.t 64) (.c (.bool false)), none⟩,
  ⟨some 66, .mov (.t 65), none⟩,
  ⟨some 67, .fld 10 (.t 2), some (66, true)⟩,
  ⟨some 68, .load none (.t 67), some (66, true)⟩,
  ⟨some 69, .fld 10 (.t 3), some (66, true)⟩,
  ⟨some 70, .load none (.t 69), some (66, true)⟩,
  ⟨some 71, .callF 77 [(.t 68), (.t 70)], some (66, true)⟩,
  ⟨some 72, .pick (.t 66) (.t 71) (.c (.bool false)), none⟩,
  ⟨some 4, .mov (.t 72), none⟩]
def b52 : ICode :=
 (.seq (.reg [(0, false), (1, false), (2, false)] r52_0)
 (.seq (.reg [(0, false), (1, false), (2, false), (3, false), (4, false), (5, false), (6, false), (7, false), (8, false), (9, false), (10, false), (11, false), (12, false), (13, false), (14, false), (15, false), (16, false), (17, false), (18, false), (19, false), (20, false), (21, false), (22, false), (23, false), (24, false), (25, false), (26, false), (27, false), (28, false), (29, false), (30, false), (31, false), (32, false), (33, false), (34, false), (35, false), (36, false), (37, false), (38, false), (39, false), (40, false), (41, false), (42, false), (43, false), (44, false), (45, false), (46, false), (47, false), (48, false), (49, false), (50, false), (51, false), (52, false), (53, false), (54, false), (55, false), (56, false), (57, false), (58, false), (59, false), (60, false), (61, false), (62, false), (63, false), (64, false), (65, false), (66, false), (67, false), (68, false)] r52_1)
 .ret))
def f52 : IFunc := { nt := 73, res := [((.t 4), none)], body := b52 }
def ps52 : List Phases := []
def ms52 : List (Option (List Nat)) := []
-- chatelaine/msg.Parse
def r55_0 : List IOper := [⟨some 2, .alloc [(.int .i64 0), (.int .i64 0), (.int .i64 0), (.int .i64 0), (.int .u64 0), (.int .i64 0), (.int .i64 0), (.int .i64 0), (.bool false), (.str (⟨#[]⟩ : ByteArray)), .nils], none⟩,
  ⟨some 3, .mov (.c (.int .i64 0)), none⟩]
def r55_1 : List IOper := [⟨some 14, .mov (.t 0), none⟩,
  ⟨some 15, .callF 68 [(.t 14)], none⟩,
  ⟨some 13, .mov (.t 15), none⟩,
  ⟨some 16, .ext (.t 13) 0, none⟩,
  ⟨some 17, .ext (.t 13) 1, none⟩,
  ⟨some 18, .ext (.t 13) 2, none⟩,
  ⟨some 4, .mov (.t 16), none⟩,
  ⟨some 5, .mov (.t 17), none⟩,
  ⟨some 6, .mov (.t 18), none⟩]
def r55_2 : List IOper := [⟨some 20, .mov (.t 6), none⟩,
  ⟨some 21, .bin .neq (.t 20) (.c (.int .i64 0)), none⟩,
  ⟨some 19, .mov (.t 21), none⟩]
def r55_3 : List IOper := [⟨some 22, .build [(.int .i64 0), (.int .i64 0), (.int .i64 0), (.int .i64 0), (.int .u64 0), (.int .i64 0), (.int .i64 0), (.int .i64 0), (.bool false), (.str (⟨#[]⟩ : ByteArray)), .nils] [], none⟩,
  ⟨some 23, .mov (.t 6), none⟩,
  ⟨none, .store 11 (.t 2) (.t 22), none⟩,
  ⟨some 3, .mov (.t 23), none⟩]
def r55_4 : List IOper := [⟨some 25, .mov (.t 4), none⟩,
  ⟨some 26, .bin .gtr (.t 25) (.c (.int .u8 13)), none⟩,
  ⟨some 24, .mov (.t 26), none⟩]
def r55_5 : List IOper := [⟨some 27, .build [(.int .i64 0), (.int .i64 0), (.int .i64 0), (.int .i64 0), (.int .u64 0), (.int .i64 0), (.int .i64 0), (.int .i64 0), (.bool false), (.str (⟨#[]⟩ : ByteArray)), .nils] [], none⟩,
  ⟨none, .store 11 (.t 2) (.t 27), none⟩,
  ⟨some 3, .mov (.c (.int .i64 1)), none⟩]
def r55_6 : List IOper := [⟨some 28, .mov (.t 5), none⟩,
  ⟨some 29, .callF 17 [(.t 28)], none⟩,
  ⟨some 7, .mov (.t 29), none⟩]
def r55_7 : List IOper := [⟨some 30, .mov (.t 4), none⟩,
  ⟨some 31, .conv .i64 (.t 30), none⟩,
  ⟨some 32, .mov (.t 7), none⟩,
  ⟨some 33, .callF 21 [(.t 32), (.c (.int .i64 11))], none⟩,
  ⟨some 34, .build [(.int .i64 0), (.int .i64 0), (.int .i64 0), (.int .i64 0), (.int .u64 0), (.int .i64 0), (.int .i64 0), (.int .i64 0), (.bool false), (.str (⟨#[]⟩ : ByteArray)), .nils] [(0, 1, (.t 31)), (1, 1, (.t 33))], none⟩,
  ⟨some 8, .alloc [(.int .i64 0), (.int .i64 0), (.int .i64 0), (.int .i64 0), (.int .u64 0), (.int .i64 0), (.int .i64 0), (.int .i64 0), (.bool false), (.str (⟨#[]⟩ : ByteArray)), .nils], none⟩,
  ⟨none, .store 11 (.t 8) (.t 34), none⟩]
def r55_8 : List IOper := [⟨some 35, .mov (.t 7), none⟩,
  ⟨some 36, .callF 21 [(.t 35), (.c (.int .i64 11))], none⟩,
  ⟨some 37, .fld 2 (.t 8), none⟩,
  ⟨none, .store 1 (.t 37) (.t 36), none⟩]
def r55_9 : List IOper := [⟨some 38, .mov (.t 7), none⟩,
  ⟨some 39, .callF 21 [(.t 38), (.c (.int .i64 3))], none⟩,
  ⟨some 40, .fld 3 (.t 8), none⟩,
  ⟨none, .store 1 (.t 40) (.t 39), none⟩]
def r55_10 : List IOper := [⟨some 41, .mov (.t 7), none⟩,
  ⟨some 42, .callF 37 [(.t 41)], none⟩,
  ⟨some 43, .fld 4 (.t 8), none⟩,
  ⟨none, .store 2 (.t 43) (.t 42), none⟩]
def r55_11 : List IOper := [⟨some 44, .mov (.t 7), none⟩,
  ⟨some 45, .callF 21 [(.t 44), (.c (.int .i64 1099511627776))], none⟩,
  ⟨some 46, .fld 6 (.t 8), none⟩,
  ⟨none, .store 1 (.t 46) (.t 45), none⟩]
def r55_12 : List IOper := [⟨some 47, .mov (.t 7), none⟩,
  ⟨some 48, .callF 21 [(.t 47), (.c (.int .i64 1099511627776))], none⟩,
  ⟨some 49, .fld 7 (.t 8), none⟩,
  ⟨none, .store 1 (.t 49) (.t 48), none⟩]
def r55_13 : List IOper := [⟨some 50, .mov (.t 7), none⟩,
  ⟨some 51, .callF 23 [(.t 50)], none⟩,
  ⟨some 52, .fld 8 (.t 8), none⟩,
  ⟨none, .store 1 (.t 52) (.t 51), none⟩]
def r55_14 : List IOper := [⟨some 53, .mov (.t 7), none⟩,
  ⟨some 54, .callF 25 [(.t 53), (.c (.int .i64 131072))], none⟩,
  ⟨some 55, .fld 9 (.t 8), none⟩,
  ⟨none, .store 1 (.t 55) (.t 54), none⟩]
def r55_15 : List IOper := [⟨some 9, .mov (.c (.int .i64 (-1))), none⟩]
def r55_16 : List IOper := [⟨some 56, .mov (.t 7), none⟩,
  ⟨some 57, .callF 21 [(.t 56), (.c (.int .i64 64))], none⟩,
  ⟨some 10, .mov (.t 57), none⟩]
def r55_17 : List IOper := [⟨some 58, .mov (.t 10), none⟩,
  ⟨some 59, .bin .gtr (.t 58) (.c (.int .i64 0)), none⟩,
  ⟨some 60, .mov (.t 59), none⟩,
  ⟨some 61, .mov (.t 7), some (60, true)⟩,
  ⟨some 62, .callF 26 [(.t 61)], some (60, true)⟩,
  ⟨some 63, .bin .eql (.t 62) (.c (.int .i64 0)), some (60, true)⟩,
  ⟨some 64, .pick (.t 60) (.t 63) (.c (.bool false)), none⟩]
def r55_18 : List IOper := [⟨some 67, .mov (.t 7), none⟩,
  ⟨some 68, .mov (.t 9), none⟩,
  ⟨some 69, .callF 78 [(.t 67), (.t 68)], none⟩,
  ⟨some 11, .alloc [(.int .i64 0), (.int .u64 0), (.int .i64 0), (.str (⟨#[]⟩ : ByteArray))], none⟩,
  ⟨none, .store 4 (.t 11) (.t 69), none⟩]
def r55_19 : List IOper := [⟨some 70, .fld 10 (.t 8), none⟩,
  ⟨some 71, .load none (.t 70), none⟩,
  ⟨some 72, .load (some 4) (.t 11), none⟩,
  ⟨some 73, .buildS 4 1 [(.int .i64 0), (.int .u64 0), (.int .i64 0), (.str (⟨#[]⟩ : ByteArray))] [(0, (.t 72))], none⟩,
  ⟨some 74, .app 4 40 (.t 71) (.t 73), none⟩,
  ⟨some 75, .fld 10 (.t 8), none⟩,
  ⟨none, .store 1 (.t 75) (.t 74), none⟩]
def r55_20 : List IOper := [⟨some 76, .fld 0 (.t 11), none⟩,
  ⟨some 77, .load none (.t 76), none⟩,
  ⟨some 9, .mov (.t 77), none⟩]
def r55_21 : List IOper := [⟨some 65, .mov (.t 10), none⟩,
  ⟨some 66, .bin .sub (.t 65) (.c (.int .i64 1)), none⟩,
  ⟨some 10, .mov (.t 66), none⟩]
def r55_22 : List IOper := [⟨some 78, .mov (.t 5), none⟩,
  ⟨some 79, .lenS (.t 78), none⟩,
  ⟨some 80, .bin .add (.t 79) (.c (.int .i64 8)), none⟩,
  ⟨some 81, .mov (.t 0), none⟩,
  ⟨some 82, .lenS (.t 81), none⟩,
  ⟨some 83, .bin .neq (.t 80) (.t 82), none⟩]
def r55_23 : List IOper := [⟨some 84, .mov (.t 7), none⟩,
  ⟨some 85, .callF 32 [(.t 84), (.c (.int .i64 4))], none⟩]
def r55_24 : List IOper := [⟨some 86, .mov (.t 7), none⟩,
  ⟨some 87, .callF 29 [(.t 86)], none⟩,
  ⟨some 12, .mov (.t 87), none⟩]
def r55_25 : List IOper := [⟨some 88, .mov (.t 12), none⟩,
  ⟨some 89, .bin .neq (.t 88) (.c (.int .i64 0)), none⟩]
def r55_26 : List IOper := [⟨some 90, .build [(.int .i64 0), (.int .i64 0), (.int .i64 0), (.int .i64 0), (.int .u64 0), (.int .i64 0), (.int .i64 0), (.int .i64 0), (.bool false), (.str (⟨#[]⟩ : ByteArray)), .nils] [], none⟩,
  ⟨some 91, .mov (.t 12), none⟩,
  ⟨none, .store 11 (.t 2) (.t 90), none⟩,
  ⟨some 3, .mov (.t 91), none⟩]
def r55_27 : List IOper := [⟨some 92, .load (some 11) (.t 8), none⟩,
  ⟨none, .store 11 (.t 2) (.t 92), none⟩,
  ⟨some 3, .mov (.c (.int .i64 0)), none⟩]
def b55 : ICode :=
 (.seq (.reg [(0, false), (1, false)] r55_0)
 (.seq (.reg [(0, false), (1, false), (2, false), (3, false), (4, false), (5, false), (6, false), (7, false), (8, false)] r55_1)
 (.seq (.seq (.block 0 (.seq (.reg [(0, false), (1, false), (2, false)] r55_2)
 (.cond (.t 19) (.seq (.reg [(0, false), (1, false), (2, false), (3, false)] r55_3)
 .ret)
 (.seq (.reg [(0, false), (1, false), (2, false)] r55_4)
 (.cond (.t 24) (.seq (.reg [(0, false), (1, false), (2, false)] r55_5)
 .ret)
 .skip))))) (.mask [0, 2, 4, 5]))
 (.seq (.reg [(0, false), (1, false), (2, false)] r55_6)
 (.seq (.reg [(0, false), (1, false), (2, false), (3, false), (4, false), (5, false), (6, false)] r55_7)
 (.seq (.reg [(0, false), (1, false), (2, false), (3, false)] r55_8)
 (.seq (.reg [(0, false), (1, false), (2, false), (3, false)] r55_9)
 (.seq (.reg [(0, false), (1, false), (2, false), (3, false)] r55_10)
 (.seq (.reg [(0, false), (1, false), (2, false), (3, false)] r55_11)
 (.seq (.reg [(0, false), (1, false), (2, false), (3, false)] r55_12)
 (.seq (.reg [(0, false), (1, false), (2, false), (3, false)] r55_13)
 (.seq (.reg [(0, false), (1, false), (2, false), (3, false)] r55_14)
 (.seq (.reg [(0, false)] r55_15)
 (.seq (.seq (.reg [(0, false), (1, false), (2, false)] r55_16)
 (.seq (.block 1 (.loop (.seq (.mask [0, 2, 5, 7, 8, 9, 10]) (.seq (.seq (.reg [(0, false), (1, false), (2, false), (3, false), (4, false), (5, false), (6, false)] r55_17)
 (.cond (.t 64) .skip
 (.exit 1)))
 (.seq (.seq (.block 2 (.seq (.reg [(0, false), (1, false), (2, false), (3, false), (4, false)] r55_18)
 (.seq (.reg [(0, false), (1, false), (2, false), (3, false), (4, false), (5, false), (6, false)] r55_19)
 (.reg [(0, false), (1, false), (2, false)] r55_20)))) (.mask [0, 2, 5, 7, 8, 9, 10]))
 (.reg [(0, false), (1, false), (2, false)] r55_21)))))) (.mask [0, 2, 5, 7, 8])))
 (.seq (.seq (.reg [(0, false), (1, false), (2, false), (3, false), (4, false), (5, false)] r55_22)
 (.seq (.cond (.t 83) (.reg [(0, false), (1, false)] r55_23)
 .skip) (.mask [2, 7, 8])))
 (.seq (.seq (.reg [(0, false), (1, false), (2, false)] r55_24)
 (.seq (.reg [(0, false), (1, false)] r55_25)
 (.cond (.t 89) (.seq (.reg [(0, false), (1, false), (2, false), (3, false)] r55_26)
 .ret)
 .skip)))
 (.seq (.reg [(0, false), (1, false), (2, false)] r55_27)
 .ret)))))))))))))))))
def f55 : IFunc := { nt := 93, res := [((.t 2), some (some 11)), ((.t 3), none)], body := b55 }
def ps55 : List Phases := []
def ms55 : List (Option (List Nat)) := [none, none, some [0, 2, 4, 5], some [0, 2, 5, 7, 8, 9, 10], none, some [0, 2, 5, 7, 8, 9, 10], some [0, 2, 5, 7, 8], some [2, 7, 8], none]
-- chatelaine/chatelaineref10.Parse
def r56_0 : List IOper := [⟨some 2, .alloc [(.int .i64 0), (.int .i64 0), (.int .i64 0), (.int .i64 0), (.int .u64 0), (.int .i64 0), (.int .i64 0), (.int .i64 0), (.bool false), (.str (⟨#[]⟩ : ByteArray)), .nils], none⟩,
  ⟨some 3, .mov (.c (.int .i64 0)), none⟩]
def r56_1 : List IOper := [⟨some 13, .mov (.t 0), none⟩,
  ⟨some 14, .callF 79 [(.t 13)], none⟩,
  ⟨some 12, .mov (.t 14), none⟩,
  ⟨some 15, .ext (.t 12) 0, none⟩,
  ⟨some 16, .ext (.t 12) 1, none⟩,
  ⟨some 4, .alloc [(.int .u8 0), (.str (⟨#[]⟩ : ByteArray))], none⟩,
  ⟨none, .store 2 (.t 4) (.t 15), none⟩,
  ⟨some 5, .mov (.t 16), none⟩]
def r56_2 : List IOper := [⟨some 17, .mov (.t 5), none⟩,
  ⟨some 18, .bin .neq (.t 17) (.c (.int .i64 0)), none⟩]
def r56_3 : List IOper := [⟨some 19, .build [(.int .i64 0), (.int .i64 0), (.int .i64 0), (.int .i64 0), (.int .u64 0), (.int .i64 0), (.int .i64 0), (.int .i64 0), (.bool false), (.str (⟨#[]⟩ : ByteArray)), .nils] [], none⟩,
  ⟨some 20, .mov (.t 5), none⟩,
  ⟨none, .store 11 (.t 2) (.t 19), none⟩,
  ⟨some 3, .mov (.t 20), none⟩]
def r56_4 : List IOper := [⟨some 21, .fld 0 (.t 4), none⟩,
  ⟨some 22, .load none (.t 21), none⟩,
  ⟨some 23, .bin .gtr (.t 22) (.c (.int .u8 13)), none⟩]
def r56_5 : List IOper := [⟨some 24, .build [(.int .i64 0), (.int .i64 0), (.int .i64 0), (.int .i64 0), (.int .u64 0), (.int .i64 0), (.int .i64 0), (.int .i64 0), (.bool false), (.str (⟨#[]⟩ : ByteArray)), .nils] [], none⟩,
  ⟨none, .store 11 (.t 2) (.t 24), none⟩,
  ⟨some 3, .mov (.c (.int .i64 1)), none⟩]
def r56_6 : List IOper := [⟨some 25, .fld 0 (.t 4), none⟩,
  ⟨some 26, .load none (.t 25), none⟩,
  ⟨some 27, .conv .i64 (.t 26), none⟩,
  ⟨some 28, .build [(.int .i64 0), (.int .i64 0), (.int .i64 0), (.int .i64 0), (.int .u64 0), (.int .i64 0), (.int .i64 0), (.int .i64 0), (.bool false), (.str (⟨#[]⟩ : ByteArray)), .nils] [(0, 1, (.t 27))], none⟩,
  ⟨some 6, .alloc [(.int .i64 0), (.int .i64 0), (.int .i64 0), (.int .i64 0), (.int .u64 0), (.int .i64 0), (.int .i64 0), (.int .i64 0), (.bool false), (.str (⟨#[]⟩ : ByteArray)), .nils], none⟩,
  ⟨none, .store 11 (.t 6) (.t 28), none⟩]
def r56_7 : List IOper := [⟨some 29, .fld 1 (.t 4), none⟩,
  ⟨some 30, .load none (.t 29), none⟩,
  ⟨some 31, .build [(.str (⟨#[]⟩ : ByteArray)), (.int .i64 0)] [(0, 1, (.t 30))], none⟩,
  ⟨some 7, .alloc [(.str (⟨#[]⟩ : ByteArray)), (.int .i64 0)], none⟩,
  ⟨none, .store 2 (.t 7) (.t 31), none⟩]
def r56_8 : List IOper := [⟨some 8, .mov (.c (.int .i64 0)), none⟩]
def r56_9 : List IOper := [⟨some 33, .load (some 2) (.t 7), none⟩,
  ⟨some 34, .callF 20 [(.t 33), (.c (.int .i64 11))], none⟩,
  ⟨some 32, .mov (.t 34), none⟩,
  ⟨some 35, .ext (.t 32) 0, none⟩,
  ⟨some 36, .ext (.t 32) 1, none⟩,
  ⟨none, .store 2 (.t 7) (.t 35), none⟩,
  ⟨some 37, .fld 1 (.t 6), none⟩,
  ⟨none, .store 1 (.t 37) (.t 36), none⟩]
def r56_10 : List IOper := [⟨some 39, .load (some 2) (.t 7), none⟩,
  ⟨some 40, .callF 20 [(.t 39), (.c (.int .i64 11))], none⟩,
  ⟨some 38, .mov (.t 40), none⟩,
  ⟨some 41, .ext (.t 38) 0, none⟩,
  ⟨some 42, .ext (.t 38) 1, none⟩,
  ⟨none, .store 2 (.t 7) (.t 41), none⟩,
  ⟨some 43, .fld 2 (.t 6), none⟩,
  ⟨none, .store 1 (.t 43) (.t 42), none⟩]
def r56_11 : List IOper := [⟨some 45, .load (some 2) (.t 7), none⟩,
  ⟨some 46, .callF 20 [(.t 45), (.c (.int .i64 3))], none⟩,
  ⟨some 44, .mov (.t 46), none⟩,
  ⟨some 47, .ext (.t 44) 0, none⟩,
  ⟨some 48, .ext (.t 44) 1, none⟩,
  ⟨none, .store 2 (.t 7) (.t 47), none⟩,
  ⟨some 49, .fld 3 (.t 6), none⟩,
  ⟨none, .store 1 (.t 49) (.t 48), none⟩]
def r56_12 : List IOper := [⟨some 51, .load (some 2) (.t 7), none⟩,
  ⟨some 52, .callF 38 [(.t 51)], none⟩,
  ⟨some 50, .mov (.t 52), none⟩,
  ⟨some 53, .ext (.t 50) 0, none⟩,
  ⟨some 54, .ext (.t 50) 1, none⟩,
  ⟨none, .store 2 (.t 7) (.t 53), none⟩,
  ⟨some 55, .fld 4 (.t 6), none⟩,
  ⟨none, .store 2 (.t 55) (.t 54), none⟩]
def r56_13 : List IOper := [⟨some 57, .load (some 2) (.t 7), none⟩,
  ⟨some 58, .callF 20 [(.t 57), (.c (.int .i64 1099511627776))], none⟩,
  ⟨some 56, .mov (.t 58), none⟩,
  ⟨some 59, .ext (.t 56) 0, none⟩,
  ⟨some 60, .ext (.t 56) 1, none⟩,
  ⟨none, .store 2 (.t 7) (.t 59), none⟩,
  ⟨some 61, .fld 6 (.t 6), none⟩,
  ⟨none, .store 1 (.t 61) (.t 60), none⟩]
def r56_14 : List IOper := [⟨some 63, .load (some 2) (.t 7), none⟩,
  ⟨some 64, .callF 20 [(.t 63), (.c (.int .i64 1099511627776))], none⟩,
  ⟨some 62, .mov (.t 64), none⟩,
  ⟨some 65, .ext (.t 62) 0, none⟩,
  ⟨some 66, .ext (.t 62) 1, none⟩,
  ⟨none, .store 2 (.t 7) (.t 65), none⟩,
  ⟨some 67, .fld 7 (.t 6), none⟩,
  ⟨none, .store 1 (.t 67) (.t 66), none⟩]
def r56_15 : List IOper := [⟨some 69, .load (some 2) (.t 7), none⟩,
  ⟨some 70, .callF 22 [(.t 69)], none⟩,
  ⟨some 68, .mov (.t 70), none⟩,
  ⟨some 71, .ext (.t 68) 0, none⟩,
  ⟨some 72, .ext (.t 68) 1, none⟩,
  ⟨none, .store 2 (.t 7) (.t 71), none⟩,
  ⟨some 73, .fld 8 (.t 6), none⟩,
  ⟨none, .store 1 (.t 73) (.t 72), none⟩]
def r56_16 : List IOper := [⟨some 75, .load (some 2) (.t 7), none⟩,
  ⟨some 76, .callF 24 [(.t 75), (.c (.int .i64 131072))], none⟩,
  ⟨some 74, .mov (.t 76), none⟩,
  ⟨some 77, .ext (.t 74) 0, none⟩,
  ⟨some 78, .ext (.t 74) 1, none⟩,
  ⟨none, .store 2 (.t 7) (.t 77), none⟩,
  ⟨some 79, .fld 9 (.t 6), none⟩,
  ⟨none, .store 1 (.t 79) (.t 78), none⟩]
def r56_17 : List IOper := [⟨some 81, .load (some 2) (.t 7), none⟩,
  ⟨some 82, .callF 20 [(.t 81), (.c (.int .i64 64))], none⟩,
  ⟨some 80, .mov (.t 82), none⟩,
  ⟨some 83, .ext (.t 80) 0, none⟩,
  ⟨some 84, .ext (.t 80) 1, none⟩,
  ⟨none, .store 2 (.t 7) (.t 83), none⟩,
  ⟨some 8, .mov (.t 84), none⟩]
def r56_18 : List IOper := [⟨some 9, .mov (.c (.int .i64 (-1))), none⟩]
def r56_19 : List IOper := [⟨some 10, .mov (.c (.int .i64 0)), none⟩]
def r56_20 : List IOper := [⟨some 85, .mov (.t 10), none⟩,
  ⟨some 86, .mov (.t 8), none⟩,
  ⟨some 87, .bin .lss (.t 85) (.t 86), none⟩,
  ⟨some 88, .mov (.t 87), none⟩,
  ⟨some 89, .fld 1 (.t 7), some (88, true)⟩,
  ⟨some 90, .load none (.t 89), some (88, true)⟩,
  ⟨some 91, .bin .eql (.t 90) (.c (.int .i64 0)), some (88, true)⟩,
  ⟨some 92, .pick (.t 88) (.t 91) (.c (.bool false)), none⟩]
def r56_21 : List IOper := [⟨some 95, .build [(.int .i64 0), (.int .u64 0), (.int .i64 0), (.str (⟨#[]⟩ : ByteArray))] [], none⟩,
  ⟨some 11, .alloc [(.int .i64 0), (.int .u64 0), (.int .i64 0), (.str (⟨#[]⟩ : ByteArray))], none⟩,
  ⟨none, .store 4 (.t 11) (.t 95), none⟩]
def r56_22 : List IOper := [⟨some 97, .load (some 2) (.t 7), none⟩,
  ⟨some 98, .callF 20 [(.t 97), (.c (.int .i64 1099511627776))], none⟩,
  ⟨some 96, .mov (.t 98), none⟩,
  ⟨some 99, .ext (.t 96) 0, none⟩,
  ⟨some 100, .ext (.t 96) 1, none⟩,
  ⟨none, .store 2 (.t 7) (.t 99), none⟩,
  ⟨some 101, .fld 0 (.t 11), none⟩,
  ⟨none, .store 1 (.t 101) (.t 100), none⟩]
def r56_23 : List IOper := [⟨some 102, .fld 1 (.t 7), none⟩,
  ⟨some 103, .load none (.t 102), none⟩,
  ⟨some 104, .bin .eql (.t 103) (.c (.int .i64 0)), none⟩,
  ⟨some 105, .mov (.t 104), none⟩,
  ⟨some 106, .fld 0 (.t 11), some (105, true)⟩,
  ⟨some 107, .load none (.t 106), some (105, true)⟩,
  ⟨some 108, .mov (.t 9), some (105, true)⟩,
  ⟨some 109, .bin .leq (.t 107) (.t 108), some (105, true)⟩,
  ⟨some 110, .pick (.t 105) (.t 109) (.c (.bool false)), none⟩]
def r56_24 : List IOper := [⟨some 111, .fld 1 (.t 7), none⟩,
  ⟨none, .store 1 (.t 111) (.c (.int .i64 4)), none⟩]
def r56_25 : List IOper := [⟨some 113, .load (some 2) (.t 7), none⟩,
  ⟨some 114, .callF 38 [(.t 113)], none⟩,
  ⟨some 112, .mov (.t 114), none⟩,
  ⟨some 115, .ext (.t 112) 0, none⟩,
  ⟨some 116, .ext (.t 112) 1, none⟩,
  ⟨none, .store 2 (.t 7) (.t 115), none⟩,
  ⟨some 117, .fld 1 (.t 11), none⟩,
  ⟨none, .store 2 (.t 117) (.t 116), none⟩]
def r56_26 : List IOper := [⟨some 119, .load (some 2) (.t 7), none⟩,
  ⟨some 120, .callF 24 [(.t 119), (.c (.int .i64 400))], none⟩,
  ⟨some 118, .mov (.t 120), none⟩,
  ⟨some 121, .ext (.t 118) 0, none⟩,
  ⟨some 122, .ext (.t 118) 1, none⟩,
  ⟨none, .store 2 (.t 7) (.t 121), none⟩,
  ⟨some 123, .fld 3 (.t 11), none⟩,
  ⟨none, .store 1 (.t 123) (.t 122), none⟩]
def r56_27 : List IOper := [⟨some 124, .fld 0 (.t 11), none⟩,
  ⟨some 125, .load none (.t 124), none⟩,
  ⟨some 9, .mov (.t 125), none⟩]
def r56_28 : List IOper := [⟨some 126, .fld 10 (.t 6), none⟩,
  ⟨some 127, .load none (.t 126), none⟩,
  ⟨some 128, .load (some 4) (.t 11), none⟩,
  ⟨some 129, .buildS 4 1 [(.int .i64 0), (.int .u64 0), (.int .i64 0), (.str (⟨#[]⟩ : ByteArray))] [(0, (.t 128))], none⟩,
  ⟨some 130, .app 4 40 (.t 127) (.t 129), none⟩,
  ⟨some 131, .fld 10 (.t 6), none⟩,
  ⟨none, .store 1 (.t 131) (.t 130), none⟩]
def r56_29 : List IOper := [⟨some 93, .mov (.t 10), none⟩,
  ⟨some 94, .bin .add (.t 93) (.c (.int .i64 1)), none⟩,
  ⟨some 10, .mov (.t 94), none⟩]
def r56_30 : List IOper := [⟨some 132, .fld 1 (.t 7), none⟩,
  ⟨some 133, .load none (.t 132), none⟩,
  ⟨some 134, .bin .eql (.t 133) (.c (.int .i64 0)), none⟩,
  ⟨some 135, .mov (.t 134), none⟩,
  ⟨some 136, .fld 0 (.t 7), some (135, true)⟩,
  ⟨some 137, .load none (.t 136), some (135, true)⟩,
  ⟨some 138, .bin .neq (.t 137) (.c (.str (⟨#[]⟩ : ByteArray))), some (135, true)⟩,
  ⟨some 139, .mov (.t 138), some (135, true)⟩,
  ⟨some 140, .fld 1 (.t 4), some (139, false)⟩,
  ⟨some 141, .load none (.t 140), some (139, false)⟩,
  ⟨some 142, .lenS (.t 141), some (139, false)⟩,
  ⟨some 143, .bin .add (.t 142) (.c (.int .i64 8)), some (139, false)⟩,
  ⟨some 144, .mov (.t 0), some (139, false)⟩,
  ⟨some 145, .lenS (.t 144), some (139, false)⟩,
  ⟨some 146, .bin .neq (.t 143) (.t 145), some (139, false)⟩,
  ⟨some 147, .pick (.t 139) (.c (.bool true)) (.t 146), some (135, true)⟩,
  ⟨some 148, .pick (.t 135) (.t 147) (.c (.bool false)), none⟩]
def r56_31 : List IOper := [⟨some 149, .fld 1 (.t 7), none⟩,
  ⟨none, .store 1 (.t 149) (.c (.int .i64 4)), none⟩]
def r56_32 : List IOper := [⟨some 150, .fld 1 (.t 7), none⟩,
  ⟨some 151, .load none (.t 150), none⟩,
  ⟨some 152, .bin .neq (.t 151) (.c (.int .i64 0)), none⟩]
def r56_33 : List IOper := [⟨some 153, .build [(.int .i64 0), (.int .i64 0), (.int .i64 0), (.int .i64 0), (.int .u64 0), (.int .i64 0), (.int .i64 0), (.int .i64 0), (.bool false), (.str (⟨#[]⟩ : ByteArray)), .nils] [], none⟩,
  ⟨some 154, .fld 1 (.t 7), none⟩,
  ⟨some 155, .load none (.t 154), none⟩,
  ⟨none, .store 11 (.t 2) (.t 153), none⟩,
  ⟨some 3, .mov (.t 155), none⟩]
def r56_34 : List IOper := [⟨some 156, .load (some 11) (.t 6), none⟩,
  ⟨none, .store 11 (.t 2) (.t 156), none⟩,
  ⟨some 3, .mov (.c (.int .i64 0)), none⟩]
def b56 : ICode :=
 (.seq (.reg [(0, false), (1, false)] r56_0)
 (.seq (.reg [(0, false), (1, false), (2, false), (3, false), (4, false), (5, false), (6, false), (7, false)] r56_1)
 (.seq (.seq (.reg [(0, false), (1, false)] r56_2)
 (.cond (.t 18) (.seq (.reg [(0, false), (1, false), (2, false), (3, false)] r56_3)
 .ret)
 .skip))
 (.seq (.seq (.reg [(0, false), (1, false), (2, false)] r56_4)
 (.cond (.t 23) (.seq (.reg [(0, false), (1, false), (2, false)] r56_5)
 .ret)
 .skip))
 (.seq (.reg [(0, false), (1, false), (2, false), (3, false), (4, false), (5, false)] r56_6)
 (.seq (.reg [(0, false), (1, false), (2, false), (3, false), (4, false)] r56_7)
 (.seq (.reg [(0, false)] r56_8)
 (.seq (.reg [(0, false), (1, false), (2, false), (3, false), (4, false), (5, false), (6, false), (7, false)] r56_9)
 (.seq (.reg [(0, false), (1, false), (2, false), (3, false), (4, false), (5, false), (6, false), (7, false)] r56_10)
 (.seq (.reg [(0, false), (1, false), (2, false), (3, false), (4, false), (5, false), (6, false), (7, false)] r56_11)
 (.seq (.reg [(0, false), (1, false), (2, false), (3, false), (4, false), (5, false), (6, false), (7, false)] r56_12)
 (.seq (.reg [(0, false), (1, false), (2, false), (3, false), (4, false), (5, false), (6, false), (7, false)] r56_13)
 (.seq (.reg [(0, false), (1, false), (2, false), (3, false), (4, false), (5, false), (6, false), (7, false)] r56_14)
 (.seq (.reg [(0, false), (1, false), (2, false), (3, false), (4, false), (5, false), (6, false), (7, false)] r56_15)
 (.seq (.reg [(0, false), (1, false), (2, false), (3, false), (4, false), (5, false), (6, false), (7, false)] r56_16)
 (.seq (.reg [(0, false), (1, false), (2, false), (3, false), (4, false), (5, false), (6, false)] r56_17)
 (.seq (.reg [(0, false)] r56_18)
 (.seq (.seq (.reg [(0, false)] r56_19)
 (.seq (.block 0 (.loop (.seq (.mask [0, 2, 4, 6, 7, 8, 9, 10]) (.seq (.seq (.reg [(0, false), (1, false), (2, false), (3, false), (4, false), (5, false), (6, false), (7, false)] r56_20)
 (.cond (.t 92) .skip
 (.exit 0)))
 (.seq (.seq (.block 1 (.seq (.reg [(0, false), (1, false), (2, false)] r56_21)
 (.seq (.reg [(0, false), (1, false), (2, false), (3, false), (4, false), (5, false), (6, false), (7, false)] r56_22)
 (.seq (.seq (.reg [(0, false), (1, false), (2, false), (3, false), (4, false), (5, false), (6, false), (7, false), (8, false)] r56_23)
 (.seq (.cond (.t 110) (.reg [(0, false), (1, false)] r56_24)
 .skip) (.mask [0, 2, 4, 6, 7, 8, 10, 11])))
 (.seq (.reg [(0, false), (1, false), (2, false), (3, false), (4, false), (5, false), (6, false), (7, false)] r56_25)
 (.seq (.reg [(0, false), (1, false), (2, false), (3, false), (4, false), (5, false), (6, false), (7, false)] r56_26)
 (.seq (.reg [(0, false), (1, false), (2, false)] r56_27)
 (.reg [(0, false), (1, false), (2, false), (3, false), (4, false), (5, false), (6, false)] r56_28)))))))) (.mask [0, 2, 4, 6, 7, 8, 9, 10]))
 (.reg [(0, false), (1, false), (2, false)] r56_29)))))) (.mask [0, 2, 4, 6, 7])))
 (.seq (.seq (.reg [(0, false), (1, false), (2, false), (3, false), (4, false), (5, false), (6, false), (7, false), (8, false), (9, false), (10, false), (11, false), (12, false), (13, false), (14, false), (15, false), (16, false)] r56_30)
 (.seq (.cond (.t 148) (.reg [(0, false), (1, false)] r56_31)
 .skip) (.mask [2, 6, 7])))
 (.seq (.seq (.reg [(0, false), (1, false), (2, false)] r56_32)
 (.cond (.t 152) (.seq (.reg [(0, false), (1, false), (2, false), (3, false), (2, true), (4, false)] r56_33)
 .ret)
 .skip))
 (.seq (.reg [(0, false), (1, false), (2, false)] r56_34)
 .ret)))))))))))))))))))))
def f56 : IFunc := { nt := 157, res := [((.t 2), some (some 11)), ((.t 3), none)], body := b56 }
def ps56 : List Phases := [⟨[([(0, false), (1, false), (2, false)], 3)], [(2, true), (4, false)]⟩]
def ms56 : List (Option (List Nat)) := [none, none, some [0, 2, 4, 6, 7, 8, 9, 10], none, some [0, 2, 4, 6, 7, 8, 10, 11], some [0, 2, 4, 6, 7, 8, 9, 10], some [0, 2, 4, 6, 7], some [2, 6, 7], none]
-- chatelaine/chatelaineref01.U
def r57_0 : List IOper := [⟨some 2, .mov (.c (.str (⟨#[]⟩ : ByteArray))), none⟩]
def r57_1 : List IOper := [⟨some 3, .mov (.t 0), none⟩,
  ⟨some 4, .bin .lss (.t 3) (.c (.int .u64 252)), none⟩]
def r57_2 : List IOper := [⟨some 5, .mov (.t 0), none⟩,
  ⟨some 6, .callF 80 [(.t 5), (.c (.int .i64 1))], none⟩,
  ⟨some 2, .mov (.t 6), none⟩]
def r57_3 : List IOper := [⟨some 7, .mov (.t 0), none⟩,
  ⟨some 8, .bin .lss (.t 7) (.c (.int .u64 65536)), none⟩]
def r57_4 : List IOper := [⟨some 9, .mov (.t 0), none⟩,
  ⟨some 10, .callF 80 [(.t 9), (.c (.int .i64 2))], none⟩,
  ⟨some 11, .bin .add (.c (.str (⟨#[252]⟩ : ByteArray))) (.t 10), none⟩,
  ⟨some 2, .mov (.t 11), none⟩]
def r57_5 : List IOper := [⟨some 12, .mov (.t 0), none⟩,
  ⟨some 13, .bin .lss (.t 12) (.c (.int .u64 4294967296)), none⟩]
def r57_6 : List IOper := [⟨some 14, .mov (.t 0), none⟩,
  ⟨some 15, .callF 80 [(.t 14), (.c (.int .i64 4))], none⟩,
  ⟨some 16, .bin .add (.c (.str (⟨#[253]⟩ : ByteArray))) (.t 15), none⟩,
  ⟨some 2, .mov (.t 16), none⟩]
def r57_7 : List IOper := [⟨some 17, .mov (.t 0), none⟩,
  ⟨some 18, .callF 80 [(.t 17), (.c (.int .i64 8))], none⟩,
  ⟨some 19, .bin .add (.c (.str (⟨#[254]⟩ : ByteArray))) (.t 18), none⟩,
  ⟨some 2, .mov (.t 19), none⟩]
def b57 : ICode :=
 (.seq (.reg [(0, false)] r57_0)
 (.seq (.seq (.reg [(0, false), (1, false)] r57_1)
 (.cond (.t 4) (.seq (.reg [(0, false), (1, false), (2, false)] r57_2)
 .ret)
 .skip))
 (.seq (.seq (.reg [(0, false), (1, false)] r57_3)
 (.cond (.t 8) (.seq (.reg [(0, false), (1, false), (2, false), (3, false)] r57_4)
 .ret)
 .skip))
 (.seq (.seq (.reg [(0, false), (1, false)] r57_5)
 (.cond (.t 13) (.seq (.reg [(0, false), (1, false), (2, false), (3, false)] r57_6)
 .ret)
 .skip))
 (.seq (.reg [(0, false), (1, false), (2, false), (3, false)] r57_7)
 .ret)))))
def f57 : IFunc := { nt := 20, res := [((.t 2), none)], body := b57 }
def ps57 : List Phases := []
def ms57 : List (Option (List Nat)) := [none, none, none]
-- chatelaine/chatelaineref01.take
def r61_0 : List IOper := [⟨some 2, .box 2 (.t 0), none⟩,
  ⟨some 4, .alloc [(.str (⟨#[]⟩ : ByteArray)), (.int .i64 0)], none⟩,
  ⟨some 5, .mov (.c (.str (⟨#[]⟩ : ByteArray))), none⟩]
def r61_1 : List IOper := [⟨some 6, .fld 1 (.t 2), none⟩,
  ⟨some 7, .load none (.t 6), none⟩,
  ⟨some 8, .bin .eql (.t 7) (.c (.int .i64 0)), none⟩,
  ⟨some 9, .mov (.t 8), none⟩,
  ⟨some 10, .mov (.t 1), some (9, true)⟩,
  ⟨some 11, .fld 0 (.t 2), some (9, true)⟩,
  ⟨some 12, .load none (.t 11), some (9, true)⟩,
  ⟨some 13, .lenS (.t 12), some (9, true)⟩,
  ⟨some 14, .bin .gtr (.t 10) (.t 13), some (9, true)⟩,
  ⟨some 15, .pick (.t 9) (.t 14) (.c (.bool false)), none⟩]
def r61_2 : List IOper := [⟨some 16, .fld 1 (.t 2), none⟩,
  ⟨none, .store 1 (.t 16) (.c (.int .i64 3)), none⟩]
def r61_3 : List IOper := [⟨some 17, .fld 1 (.t 2), none⟩,
  ⟨some 18, .load none (.t 17), none⟩,
  ⟨some 19, .bin .neq (.t 18) (.c (.int .i64 0)), none⟩]
def r61_4 : List IOper := [⟨some 20, .load (some 2) (.t 2), none⟩,
  ⟨none, .store 2 (.t 4) (.t 20), none⟩,
  ⟨some 5, .mov (.c (.str (⟨#[]⟩ : ByteArray))), none⟩]
def r61_5 : List IOper := [⟨some 21, .fld 0 (.t 2), none⟩,
  ⟨some 22, .load none (.t 21), none⟩,
  ⟨some 23, .mov (.t 1), none⟩,
  ⟨some 24, .slcStr (.t 22) (some (.t 23)) none, none⟩,
  ⟨some 25, .build [(.str (⟨#[]⟩ : ByteArray)), (.int .i64 0)] [(0, 1, (.t 24)), (1, 1, (.c (.int .i64 0)))], none⟩,
  ⟨some 26, .fld 0 (.t 2), none⟩,
  ⟨some 27, .load none (.t 26), none⟩,
  ⟨some 28, .mov (.t 1), none⟩,
  ⟨some 29, .slcStr (.t 27) none (some (.t 28)), none⟩,
  ⟨none, .store 2 (.t 4) (.t 25), none⟩,
  ⟨some 5, .mov (.t 29), none⟩]
def b61 : ICode :=
 (.seq (.reg [(0, false), (1, false), (2, false)] r61_0)
 (.seq (.seq (.reg [(0, false), (1, false), (2, false), (3, false), (4, false), (5, false), (6, false), (7, false), (8, false), (9, false)] r61_1)
 (.seq (.cond (.t 15) (.reg [(0, false), (1, false)] r61_2)
 .skip) (.mask [1, 2, 4])))
 (.seq (.seq (.reg [(0, false), (1, false), (2, false)] r61_3)
 (.cond (.t 19) (.seq (.reg [(0, false), (1, false), (2, false)] r61_4)
 .ret)
 .skip))
 (.seq (.reg [(0, false), (1, false), (2, false), (3, false), (4, false), (5, false), (6, false), (7, false), (8, false), (9, false), (6, true), (10, false)] r61_5)
 .ret))))
def f61 : IFunc := { nt := 30, res := [((.t 4), some (some 2)), ((.t 5), none)], body := b61 }
def ps61 : List Phases := [⟨[([(0, false), (1, false), (2, false), (3, false), (4, false), (5, false), (6, false), (7, false), (8, false)], 9)], [(6, true), (10, false)]⟩]
def ms61 : List (Option (List Nat)) := [some [1, 2, 4], none]
-- chatelaine/chatelaineref01.fail
def r62_0 : List IOper := [⟨some 2, .box 2 (.t 0), none⟩,
  ⟨some 4, .alloc [(.str (⟨#[]⟩ : ByteArray)), (.int .i64 0)], none⟩]
def r62_1 : List IOper := [⟨some 5, .fld 1 (.t 2), none⟩,
  ⟨some 6, .load none (.t 5), none⟩,
  ⟨some 7, .bin .eql (.t 6) (.c (.int .i64 0)), none⟩]
def r62_2 : List IOper := [⟨some 8, .mov (.t 1), none⟩,
  ⟨some 9, .fld 1 (.t 2), none⟩,
  ⟨none, .store 1 (.t 9) (.t 8), none⟩]
def r62_3 : List IOper := [⟨some 10, .load (some 2) (.t 2), none⟩,
  ⟨none, .store 2 (.t 4) (.t 10), none⟩]
def b62 : ICode :=
 (.seq (.reg [(0, false), (1, false)] r62_0)
 (.seq (.seq (.reg [(0, false), (1, false), (2, false)] r62_1)
 (.seq (.cond (.t 7) (.reg [(0, false), (1, false), (2, false)] r62_2)
 .skip) (.mask [2, 4])))
 (.seq (.reg [(0, false), (1, false)] r62_3)
 .ret)))
def f62 : IFunc := { nt := 11, res := [((.t 4), some (some 2))], body := b62 }
def ps62 : List Phases := []
def ms62 : List (Option (List Nat)) := [some [2, 4]]
-- (*chatelaine/code.Reader).take
def r63_0 : List IOper := [⟨some 4, .mov (.c (.str (⟨#[]⟩ : ByteArray))), none⟩]
def r63_1 : List IOper := [⟨some 6, .mov (.t 1), none⟩,
  ⟨some 7, .mov (.t 0), none⟩,
  ⟨some 8, .nilck (.t 7), none⟩,
  ⟨some 9, .fld 0 (.t 8), none⟩,
  ⟨some 10, .load none (.t 9), none⟩,
  ⟨some 11, .lenS (.t 10), none⟩,
  ⟨some 12, .bin .gtr (.t 6) (.t 11), none⟩]
def r63_2 : List IOper := [⟨some 13, .mov (.t 0), none⟩,
  ⟨some 14, .callF 32 [(.t 13), (.c (.int .i64 3))], none⟩]
def r63_3 : List IOper := [⟨some 15, .mov (.t 0), none⟩,
  ⟨some 16, .nilck (.t 15), none⟩,
  ⟨some 17, .fld 1 (.t 16), none⟩,
  ⟨some 18, .load none (.t 17), none⟩,
  ⟨some 19, .bin .neq (.t 18) (.c (.int .i64 0)), none⟩]
def r63_4 : List IOper := [⟨some 4, .mov (.c (.str (⟨#[]⟩ : ByteArray))), none⟩]
def r63_5 : List IOper := [⟨some 20, .mov (.t 0), none⟩,
  ⟨some 21, .nilck (.t 20), none⟩,
  ⟨some 22, .fld 0 (.t 21), none⟩,
  ⟨some 23, .load none (.t 22), none⟩,
  ⟨some 24, .mov (.t 1), none⟩,
  ⟨some 25, .slcStr (.t 23) none (some (.t 24)), none⟩,
  ⟨some 5, .mov (.t 25), none⟩]
def r63_6 : List IOper := [⟨some 26, .mov (.t 0), none⟩,
  ⟨some 27, .mov (.t 0), none⟩,
  ⟨some 28, .nilck (.t 27), none⟩,
  ⟨some 29, .fld 0 (.t 28), none⟩,
  ⟨some 30, .load none (.t 29), none⟩,
  ⟨some 31, .mov (.t 1), none⟩,
  ⟨some 32, .slcStr (.t 30) (some (.t 31)) none, none⟩,
  ⟨some 33, .nilck (.t 26), none⟩,
  ⟨some 34, .fld 0 (.t 33), none⟩,
  ⟨none, .store 1 (.t 34) (.t 32), none⟩]
def r63_7 : List IOper := [⟨some 35, .mov (.t 5), none⟩,
  ⟨some 4, .mov (.t 35), none⟩]
def b63 : ICode :=
 (.seq (.reg [(0, false)] r63_0)
 (.seq (.seq (.reg [(0, false), (1, false), (2, false), (3, false), (4, false), (5, false), (6, false)] r63_1)
 (.seq (.cond (.t 12) (.reg [(0, false), (1, false)] r63_2)
 .skip) (.mask [0, 1])))
 (.seq (.seq (.reg [(0, false), (1, false), (2, false), (3, false), (4, false)] r63_3)
 (.cond (.t 19) (.seq (.reg [(0, false)] r63_4)
 .ret)
 .skip))
 (.seq (.reg [(0, false), (1, false), (2, false), (3, false), (4, false), (5, false), (6, false)] r63_5)
 (.seq (.reg [(0, false), (1, false), (2, false), (3, false), (4, false), (5, false), (6, false), (7, false), (8, false), (9, false)] r63_6)
 (.seq (.reg [(0, false), (1, false)] r63_7)
 .ret))))))
def f63 : IFunc := { nt := 36, res := [((.t 4), none)], body := b63 }
def ps63 : List Phases := []
def ms63 : List (Option (List Nat)) := [some [0, 1], none]
-- chatelaine/code.head
def r64_0 : List IOper := [⟨some 2, .mov (.c (.int .u8 0)), none⟩,
  ⟨some 3, .mov (.c (.int .i64 0)), none⟩]
def r64_1 : List IOper := [⟨some 5, .mov (.t 0), none⟩,
  ⟨some 6, .bin .lss (.t 5) (.c (.int .u64 252)), none⟩,
  ⟨some 4, .mov (.t 6), none⟩]
def r64_2 : List IOper := [⟨some 7, .mov (.t 0), none⟩,
  ⟨some 8, .conv .u8 (.t 7), none⟩,
  ⟨some 2, .mov (.t 8), none⟩,
  ⟨some 3, .mov (.c (.int .i64 0)), none⟩]
def r64_3 : List IOper := [⟨some 10, .mov (.t 0), none⟩,
  ⟨some 11, .bin .lss (.t 10) (.c (.int .u64 65536)), none⟩,
  ⟨some 9, .mov (.t 11), none⟩]
def r64_4 : List IOper := [⟨some 2, .mov (.c (.int .u8 252)), none⟩,
  ⟨some 3, .mov (.c (.int .i64 2)), none⟩]
def r64_5 : List IOper := [⟨some 13, .mov (.t 0), none⟩,
  ⟨some 14, .bin .lss (.t 13) (.c (.int .u64 4294967296)), none⟩,
  ⟨some 12, .mov (.t 14), none⟩]
def r64_6 : List IOper := [⟨some 2, .mov (.c (.int .u8 253)), none⟩,
  ⟨some 3, .mov (.c (.int .i64 4)), none⟩]
def r64_7 : List IOper := [⟨some 2, .mov (.c (.int .u8 254)), none⟩,
  ⟨some 3, .mov (.c (.int .i64 8)), none⟩]
def b64 : ICode :=
 (.seq (.reg [(0, false), (1, false)] r64_0)
 (.seq (.seq (.block 0 (.seq (.reg [(0, false), (1, false), (2, false)] r64_1)
 (.cond (.t 4) (.seq (.reg [(0, false), (1, false), (2, false), (3, false)] r64_2)
 .ret)
 (.seq (.reg [(0, false), (1, false), (2, false)] r64_3)
 (.cond (.t 9) (.seq (.reg [(0, false), (1, false)] r64_4)
 .ret)
 (.seq (.reg [(0, false), (1, false), (2, false)] r64_5)
 (.cond (.t 12) (.seq (.reg [(0, false), (1, false)] r64_6)
 .ret)
 .skip))))))) (.mask []))
 (.seq (.reg [(0, false), (1, false)] r64_7)
 .ret)))
def f64 : IFunc := { nt := 15, res := [((.t 2), none), ((.t 3), none)], body := b64 }
def ps64 : List Phases := []
def ms64 : List (Option (List Nat)) := [none, none, none, some []]
-- (*chatelaine/code.Writer).wide
def r65_0 : List IOper := [⟨some 7, .mov (.t 2), none⟩,
  ⟨some 8, .bin .sub (.t 7) (.c (.int .i64 1)), none⟩,
  ⟨some 6, .mov (.t 8), none⟩]
def r65_1 : List IOper := [⟨some 9, .mov (.t 6), none⟩,
  ⟨some 10, .bin .geq (.t 9) (.c (.int .i64 0)), none⟩]
def r65_2 : List IOper := [⟨some 13, .mov (.t 0), none⟩,
  ⟨some 14, .mov (.t 0), none⟩,
  ⟨some 15, .nilck (.t 14), none⟩,
  ⟨some 16, .fld 0 (.t 15), none⟩,
  ⟨some 17, .load none (.t 16), none⟩,
  ⟨some 18, .mov (.t 1), none⟩,
  ⟨some 19, .mov (.t 6), none⟩,
  ⟨some 20, .bin .mul (.c (.int .i64 8)) (.t 19), none⟩,
  ⟨some 21, .bin .shr (.t 18) (.t 20), none⟩,
  ⟨some 22, .conv .u8 (.t 21), none⟩,
  ⟨some 23, .buildS 1 1 [(.int .u8 0)] [(0, (.t 22))], none⟩,
  ⟨some 24, .app 1 1 (.t 17) (.t 23), none⟩,
  ⟨some 25, .nilck (.t 13), none⟩,
  ⟨some 26, .fld 0 (.t 25), none⟩,
  ⟨none, .store 1 (.t 26) (.t 24), none⟩]
def r65_3 : List IOper := [⟨some 11, .mov (.t 6), none⟩,
  ⟨some 12, .bin .sub (.t 11) (.c (.int .i64 1)), none⟩,
  ⟨some 6, .mov (.t 12), none⟩]
def b65 : ICode :=
 (.seq (.reg [(0, false), (1, false), (2, false)] r65_0)
 (.seq (.block 0 (.loop (.seq (.mask [0, 1, 6]) (.seq (.seq (.reg [(0, false), (1, false)] r65_1)
 (.cond (.t 10) .skip
 (.exit 0)))
 (.seq (.seq (.block 1 (.reg [(0, false), (1, false), (2, false), (3, false), (4, false), (5, false), (6, false), (7, false), (8, false), (9, false), (10, false), (11, false), (12, false), (13, false), (14, false)] r65_2)) (.mask [0, 1, 6]))
 (.reg [(0, false), (1, false), (2, false)] r65_3)))))) (.mask [])))
def f65 : IFunc := { nt := 27, res := [], body := b65 }
def ps65 : List Phases := [⟨[([(0, false), (1, false), (2, false), (3, false), (4, false), (5, false), (6, false), (7, false), (8, false), (9, false), (10, false)], 11), ([(12, false), (13, false)], 14)], []⟩]
def ms65 : List (Option (List Nat)) := [some [0, 1, 6], none, some [0, 1, 6], some []]
-- chatelaine/seal.digits
def r67_0 : List IOper := [⟨some 4, .mov (.c (.str (⟨#[]⟩ : ByteArray))), none⟩]
def r67_1 : List IOper := [⟨some 7, .mov (.t 1), none⟩,
  ⟨some 8, .mkS 1 1 [(.int .u8 0)] (.t 7) (.t 7), none⟩,
  ⟨some 5, .mov (.t 8), none⟩]
def r67_2 : List IOper := [⟨some 9, .mov (.t 5), none⟩,
  ⟨some 10, .lenL (.t 9), none⟩,
  ⟨some 11, .mov (.c (.int .i64 0)), none⟩]
def r67_3 : List IOper := [⟨some 12, .bin .lss (.t 11) (.t 10), none⟩]
def r67_4 : List IOper := [⟨some 13, .mov (.t 11), none⟩,
  ⟨some 6, .mov (.t 13), none⟩]
def r67_5 : List IOper := [⟨some 14, .mov (.t 5), none⟩,
  ⟨some 15, .mov (.t 1), none⟩,
  ⟨some 16, .bin .sub (.t 15) (.c (.int .i64 1)), none⟩,
  ⟨some 17, .mov (.t 6), none⟩,
  ⟨some 18, .bin .sub (.t 16) (.t 17), none⟩,
  ⟨some 19, .mov (.t 0), none⟩,
  ⟨some 20, .mov (.t 6), none⟩,
  ⟨some 21, .bin .mul (.c (.int .i64 8)) (.t 20), none⟩,
  ⟨some 22, .bin .shr (.t 19) (.t 21), none⟩,
  ⟨some 23, .conv .u8 (.t 22), none⟩,
  ⟨some 24, .ixS 1 (.t 14) (.t 18), none⟩,
  ⟨none, .store 1 (.t 24) (.t 23), none⟩]
def r67_6 : List IOper := [⟨some 25, .bin .add (.t 11) (.c (.int .i64 1)), none⟩,
  ⟨some 11, .mov (.t 25), none⟩]
def r67_7 : List IOper := [⟨some 26, .mov (.t 5), none⟩,
  ⟨some 27, .b2s (.t 26), none⟩,
  ⟨some 4, .mov (.t 27), none⟩]
def b67 : ICode :=
 (.seq (.reg [(0, false)] r67_0)
 (.seq (.reg [(0, false), (1, false), (2, false)] r67_1)
 (.seq (.seq (.reg [(0, false), (1, false), (2, false)] r67_2)
 (.seq (.block 0 (.loop (.seq (.mask [0, 1, 5, 10, 11]) (.seq (.reg [(0, false)] r67_3)
 (.seq (.cond (.t 12) .skip
 (.exit 0))
 (.seq (.seq (.block 1 (.seq (.reg [(0, false), (1, false)] r67_4)
 (.reg [(0, false), (1, false), (2, false), (3, false), (4, false), (5, false), (6, false), (7, false), (8, false), (9, false), (10, false), (11, false)] r67_5))) (.mask [0, 1, 5, 10, 11]))
 (.reg [(0, false), (1, false)] r67_6))))))) (.mask [5])))
 (.seq (.reg [(0, false), (1, false), (2, false)] r67_7)
 .ret))))
def f67 : IFunc := { nt := 28, res := [((.t 4), none)], body := b67 }
def ps67 : List Phases := []
def ms67 : List (Option (List Nat)) := [some [0, 1, 5, 10, 11], none, some [0, 1, 5, 10, 11], some [5]]
-- chatelaine/seal.Open
def r68_0 : List IOper := [⟨some 2, .mov (.c (.int .u8 0)), none⟩,
  ⟨some 3, .mov (.c (.str (⟨#[]⟩ : ByteArray))), none⟩,
  ⟨some 4, .mov (.c (.int .i64 0)), none⟩]
def r68_1 : List IOper := [⟨some 6, .mov (.t 0), none⟩,
  ⟨some 7, .lenS (.t 6), none⟩,
  ⟨some 8, .bin .lss (.t 7) (.c (.int .i64 4)), none⟩]
def r68_2 : List IOper := [⟨some 2, .mov (.c (.int .u8 0)), none⟩,
  ⟨some 3, .mov (.c (.str (⟨#[]⟩ : ByteArray))), none⟩,
  ⟨some 4, .mov (.c (.int .i64 3)), none⟩]
def r68_3 : List IOper := [⟨some 9, .mov (.t 0), none⟩,
  ⟨some 10, .slcStr (.t 9) (some (.c (.int .i64 1))) (some (.c (.int .i64 4))), none⟩,
  ⟨some 11, .callF 81 [(.t 10)], none⟩,
  ⟨some 12, .conv .i64 (.t 11), none⟩,
  ⟨some 5, .mov (.t 12), none⟩]
def r68_4 : List IOper := [⟨some 14, .mov (.t 0), none⟩,
  ⟨some 15, .ixStr (.t 14) (.c (.int .i64 0)), none⟩,
  ⟨some 16, .bin .eql (.t 15) (.c (.int .u8 0)), none⟩,
  ⟨some 13, .mov (.t 16), none⟩]
def r68_5 : List IOper := [⟨some 2, .mov (.c (.int .u8 0)), none⟩,
  ⟨some 3, .mov (.c (.str (⟨#[]⟩ : ByteArray))), none⟩,
  ⟨some 4, .mov (.c (.int .i64 4)), none⟩]
def r68_6 : List IOper := [⟨some 18, .mov (.t 5), none⟩,
  ⟨some 19, .bin .gtr (.t 18) (.c (.int .i64 1048576)), none⟩,
  ⟨some 17, .mov (.t 19), none⟩]
def r68_7 : List IOper := [⟨some 2, .mov (.c (.int .u8 0)), none⟩,
  ⟨some 3, .mov (.c (.str (⟨#[]⟩ : ByteArray))), none⟩,
  ⟨some 4, .mov (.c (.int .i64 6)), none⟩]
def r68_8 : List IOper := [⟨some 21, .mov (.t 5), none⟩,
  ⟨some 22, .bin .add (.t 21) (.c (.int .i64 8)), none⟩,
  ⟨some 23, .mov (.t 0), none⟩,
  ⟨some 24, .lenS (.t 23), none⟩,
  ⟨some 25, .bin .gtr (.t 22) (.t 24), none⟩,
  ⟨some 20, .mov (.t 25), none⟩]
def r68_9 : List IOper := [⟨some 2, .mov (.c (.int .u8 0)), none⟩,
  ⟨some 3, .mov (.c (.str (⟨#[]⟩ : ByteArray))), none⟩,
  ⟨some 4, .mov (.c (.int .i64 3)), none⟩]
def r68_10 : List IOper := [⟨some 27, .mov (.t 0), none⟩,
  ⟨some 28, .mov (.t 5), none⟩,
  ⟨some 29, .bin .add (.c (.int .i64 4)) (.t 28), none⟩,
  ⟨some 30, .slcStr (.t 27) none (some (.t 29)), none⟩,
  ⟨some 31, .buildS 1 1 [(.str (⟨#[]⟩ : ByteArray))] [(0, (.t 30))], none⟩,
  ⟨some 32, .callF 44 [(.t 31)], none⟩,
  ⟨some 33, .mov (.t 0), none⟩,
  ⟨some 34, .mov (.t 5), none⟩,
  ⟨some 35, .bin .add (.c (.int .i64 4)) (.t 34), none⟩,
  ⟨some 36, .mov (.t 5), none⟩,
  ⟨some 37, .bin .add (.t 36) (.c (.int .i64 8)), none⟩,
  ⟨some 38, .slcStr (.t 33) (some (.t 35)) (some (.t 37)), none⟩,
  ⟨some 39, .callF 81 [(.t 38)], none⟩,
  ⟨some 40, .bin .neq (.t 32) (.t 39), none⟩,
  ⟨some 26, .mov (.t 40), none⟩]
def r68_11 : List IOper := [⟨some 2, .mov (.c (.int .u8 0)), none⟩,
  ⟨some 3, .mov (.c (.str (⟨#[]⟩ : ByteArray))), none⟩,
  ⟨some 4, .mov (.c (.int .i64 5)), none⟩]
def r68_12 : List IOper := [⟨some 41, .mov (.t 0), none⟩,
  ⟨some 42, .ixStr (.t 41) (.c (.int .i64 0)), none⟩,
  ⟨some 43, .mov (.t 0), none⟩,
  ⟨some 44, .mov (.t 5), none⟩,
  ⟨some 45, .bin .add (.c (.int .i64 4)) (.t 44), none⟩,
  ⟨some 46, .slcStr (.t 43) (some (.c (.int .i64 4))) (some (.t 45)), none⟩,
  ⟨some 2, .mov (.t 42), none⟩,
  ⟨some 3, .mov (.t 46), none⟩,
  ⟨some 4, .mov (.c (.int .i64 0)), none⟩]
def b68 : ICode :=
 (.seq (.reg [(0, false), (1, false), (2, false)] r68_0)
 (.seq (.seq (.reg [(0, false), (1, false), (2, false)] r68_1)
 (.cond (.t 8) (.seq (.reg [(0, false), (1, false), (2, false)] r68_2)
 .ret)
 .skip))
 (.seq (.reg [(0, false), (1, false), (2, false), (3, false), (4, false)] r68_3)
 (.seq (.seq (.block 0 (.seq (.reg [(0, false), (1, false), (2, false), (3, false)] r68_4)
 (.cond (.t 13) (.seq (.reg [(0, false), (1, false), (2, false)] r68_5)
 .ret)
 (.seq (.reg [(0, false), (1, false), (2, false)] r68_6)
 (.cond (.t 17) (.seq (.reg [(0, false), (1, false), (2, false)] r68_7)
 .ret)
 (.seq (.reg [(0, false), (1, false), (2, false), (3, false), (4, false), (5, false)] r68_8)
 (.cond (.t 20) (.seq (.reg [(0, false), (1, false), (2, false)] r68_9)
 .ret)
 (.seq (.reg [(0, false), (1, false), (2, false), (3, false), (6, false), (7, false), (8, false), (9, false), (10, false), (11, false), (4, false), (5, false), (12, false), (13, false), (14, false)] r68_10)
 (.cond (.t 26) (.seq (.reg [(0, false), (1, false), (2, false)] r68_11)
 .ret)
 .skip))))))))) (.mask [0, 5]))
 (.seq (.reg [(0, false), (1, false), (2, false), (3, false), (4, false), (5, false), (6, false), (7, false), (8, false)] r68_12)
 .ret)))))
def f68 : IFunc := { nt := 47, res := [((.t 2), none), ((.t 3), none), ((.t 4), none)], body := b68 }
def ps68 : List Phases := [⟨[([(0, false), (1, false), (2, false), (3, false), (6, false), (7, false), (8, false), (9, false), (10, false), (11, false), (4, false)], 5), ([], 12)], [(13, false), (14, false)]⟩, ⟨[], [(0, false), (1, false), (2, false), (3, false), (4, false), (5, false), (6, false), (7, false), (8, false)]⟩]
def ms68 : List (Option (List Nat)) := [none, none, none, none, none, some [0, 5]]
-- chatelaine/seal.more
def r69_0 : List IOper := [⟨some 4, .mov (.c (.int .u32 0)), none⟩]
def r69_1 : List IOper := [⟨some 6, .mov (.t 0), none⟩,
  ⟨some 7, .mov (.t 1), none⟩,
  ⟨some 8, .conv .u32 (.t 7), none⟩,
  ⟨some 9, .bin .xor (.t 6) (.t 8), none⟩,
  ⟨some 0, .mov (.t 9), none⟩]
def r69_2 : List IOper := [⟨some 10, .mov (.c (.int .i64 0)), none⟩]
def r69_3 : List IOper := [⟨some 11, .bin .lss (.t 10) (.c (.int .i64 8)), none⟩]
def r69_4 : List IOper := [⟨some 12, .mov (.t 0), none⟩,
  ⟨some 13, .bin .and (.t 12) (.c (.int .u32 1)), none⟩,
  ⟨some 5, .mov (.t 13), none⟩]
def r69_5 : List IOper := [⟨some 14, .mov (.t 0), none⟩,
  ⟨some 15, .bin .shr (.t 14) (.c (.int .u64 1)), none⟩,
  ⟨some 0, .mov (.t 15), none⟩]
def r69_6 : List IOper := [⟨some 16, .mov (.t 5), none⟩,
  ⟨some 17, .bin .eql (.t 16) (.c (.int .u32 1)), none⟩]
def r69_7 : List IOper := [⟨some 18, .mov (.t 0), none⟩,
  ⟨some 19, .bin .xor (.t 18) (.c (.int .u32 3988292384)), none⟩,
  ⟨some 0, .mov (.t 19), none⟩]
def r69_8 : List IOper := [⟨some 20, .bin .add (.t 10) (.c (.int .i64 1)), none⟩,
  ⟨some 10, .mov (.t 20), none⟩]
def r69_9 : List IOper := [⟨some 21, .mov (.t 0), none⟩,
  ⟨some 4, .mov (.t 21), none⟩]
def b69 : ICode :=
 (.seq (.reg [(0, false)] r69_0)
 (.seq (.reg [(0, false), (1, false), (2, false), (3, false), (4, false)] r69_1)
 (.seq (.seq (.reg [(0, false)] r69_2)
 (.seq (.block 0 (.loop (.seq (.mask [0, 10]) (.seq (.reg [(0, false)] r69_3)
 (.seq (.cond (.t 11) .skip
 (.exit 0))
 (.seq (.seq (.block 1 (.seq (.reg [(0, false), (1, false), (2, false)] r69_4)
 (.seq (.reg [(0, false), (1, false), (2, false)] r69_5)
 (.seq (.reg [(0, false), (1, false)] r69_6)
 (.seq (.cond (.t 17) (.reg [(0, false), (1, false), (2, false)] r69_7)
 .skip) (.mask [0, 10])))))) (.mask [0, 10]))
 (.reg [(0, false), (1, false)] r69_8))))))) (.mask [0])))
 (.seq (.reg [(0, false), (1, false)] r69_9)
 .ret))))
def f69 : IFunc := { nt := 22, res := [((.t 4), none)], body := b69 }
def ps69 : List Phases := []
def ms69 : List (Option (List Nat)) := [some [0, 10], none, some [0, 10], some [0, 10], some [0]]
-- (chatelaine/msg.Msg).ranged
def r72_0 : List IOper := [⟨some 1, .box 11 (.t 0), none⟩,
  ⟨some 2, .mov (.c (.bool false)), none⟩]
def r72_1 : List IOper := [⟨some 5, .fld 1 (.t 1), none⟩,
  ⟨some 6, .load none (.t 5), none⟩,
  ⟨some 7, .callF 82 [(.t 6), (.c (.int .i64 11))], none⟩,
  ⟨some 8, .un .not (.t 7), none⟩,
  ⟨some 9, .mov (.t 8), none⟩,
  ⟨some 10, .fld 2 (.t 1), some (9, false)⟩,
  ⟨some 11, .load none (.t 10), some (9, false)⟩,
  ⟨some 12, .callF 82 [(.t 11), (.c (.int .i64 11))], some (9, false)⟩,
  ⟨some 13, .un .not (.t 12), some (9, false)⟩,
  ⟨some 14, .pick (.t 9) (.c (.bool true)) (.t 13), none⟩,
  ⟨some 15, .mov (.t 14), none⟩,
  ⟨some 16, .fld 3 (.t 1), some (15, false)⟩,
  ⟨some 17, .load none (.t 16), some (15, false)⟩,
  ⟨some 18, .callF 82 [(.t 17), (.c (.int .i64 3))], some (15, false)⟩,
  ⟨some 19, .un .not (.t 18), some (15, false)⟩,
  ⟨some 20, .pick (.t 15) (.c (.bool true)) (.t 19), none⟩,
  ⟨some 21, .mov (.t 20), none⟩,
  ⟨some 22, .fld 4 (.t 1), some (21, false)⟩,
  ⟨some 23, .load (some 2) (.t 22), some (21, false)⟩,
  ⟨some 24, .callF 83 [(.t 23)], some (21, false)⟩,
  ⟨some 25, .un .not (.t 24), some (21, false)⟩,
  ⟨some 26, .pick (.t 21) (.c (.bool true)) (.t 25), none⟩]
def r72_2 : List IOper := [⟨some 2, .mov (.c (.bool false)), none⟩]
def r72_3 : List IOper := [⟨some 27, .fld 10 (.t 1), none⟩,
  ⟨some 28, .load none (.t 27), none⟩,
  ⟨some 29, .lenL (.t 28), none⟩,
  ⟨some 30, .mov (.c (.int .i64 0)), none⟩]
def r72_4 : List IOper := [⟨some 31, .bin .lss (.t 30) (.t 29), none⟩]
def r72_5 : List IOper := [⟨some 32, .ixS 4 (.t 28) (.t 30), none⟩,
  ⟨some 33, .load (some 4) (.t 32), none⟩,
  ⟨some 4, .alloc [(.int .i64 0), (.int .u64 0), (.int .i64 0), (.str (⟨#[]⟩ : ByteArray))], none⟩,
  ⟨none, .store 4 (.t 4) (.t 33), none⟩]
def r72_6 : List IOper := [⟨some 34, .fld 1 (.t 4), none⟩,
  ⟨some 35, .load (some 2) (.t 34), none⟩,
  ⟨some 36, .callF 83 [(.t 35)], none⟩,
  ⟨some 37, .un .not (.t 36), none⟩,
  ⟨some 38, .mov (.t 37), none⟩,
  ⟨some 39, .fld 0 (.t 4), some (38, false)⟩,
  ⟨some 40, .load none (.t 39), some (38, false)⟩,
  ⟨some 41, .callF 82 [(.t 40), (.c (.int .i64 1099511627776))], some (38, false)⟩,
  ⟨some 42, .un .not (.t 41), some (38, false)⟩,
  ⟨some 43, .pick (.t 38) (.c (.bool true)) (.t 42), none⟩]
def r72_7 : List IOper := [⟨some 2, .mov (.c (.bool false)), none⟩]
def r72_8 : List IOper := [⟨some 44, .bin .add (.t 30) (.c (.int .i64 1)), none⟩,
  ⟨some 30, .mov (.t 44), none⟩]
def r72_9 : List IOper := [⟨some 45, .fld 6 (.t 1), none⟩,
  ⟨some 46, .load none (.t 45), none⟩,
  ⟨some 47, .callF 82 [(.t 46), (.c (.int .i64 1099511627776))], none⟩,
  ⟨some 48, .mov (.t 47), none⟩,
  ⟨some 49, .fld 7 (.t 1), some (48, true)⟩,
  ⟨some 50, .load none (.t 49), some (48, true)⟩,
  ⟨some 51, .callF 82 [(.t 50), (.c (.int .i64 1099511627776))], some (48, true)⟩,
  ⟨some 52, .pick (.t 48) (.t 51) (.c (.bool false)), none⟩,
  ⟨some 2, .mov (.t 52), none⟩]
def b72 : ICode :=
 (.seq (.reg [(0, false), (1, false)] r72_0)
 (.seq (.seq (.reg [(0, false), (1, false), (2, false), (3, false), (4, false), (5, false), (6, false), (7, false), (8, false), (9, false), (10, false), (11, false), (12, false), (13, false), (14, false), (15, false), (16, false), (17, false), (18, false), (19, false), (20, false), (21, false)] r72_1)
 (.cond (.t 26) (.seq (.reg [(0, false)] r72_2)
 .ret)
 .skip))
 (.seq (.seq (.reg [(0, false), (1, false), (2, false), (3, false)] r72_3)
 (.seq (.block 0 (.loop (.seq (.mask [1, 28, 29, 30]) (.seq (.reg [(0, false)] r72_4)
 (.seq (.cond (.t 31) .skip
 (.exit 0))
 (.seq (.seq (.block 1 (.seq (.reg [(0, false), (1, false), (2, false), (3, false)] r72_5)
 (.seq (.reg [(0, false), (1, false), (2, false), (3, false), (4, false), (5, false), (6, false), (7, false), (8, false), (9, false)] r72_6)
 (.cond (.t 43) (.seq (.reg [(0, false)] r72_7)
 .ret)
 .skip)))) (.mask [1, 28, 29, 30]))
 (.reg [(0, false), (1, false)] r72_8))))))) (.mask [1])))
 (.seq (.reg [(0, false), (1, false), (2, false), (3, false), (4, false), (5, false), (6, false), (7, false), (8, false)] r72_9)
 .ret))))
def f72 : IFunc := { nt := 53, res := [((.t 2), none)], body := b72 }
def ps72 : List Phases := []
def ms72 : List (Option (List Nat)) := [none, some [1, 28, 29, 30], none, none, some [1, 28, 29, 30], some [1]]
-- (chatelaine/msg.Msg).great
def r73_0 : List IOper := [⟨some 1, .box 11 (.t 0), none⟩,
  ⟨some 2, .mov (.c (.bool false)), none⟩]
def r73_1 : List IOper := [⟨some 3, .mov (.c (.func 84 [] [])), none⟩]
def r73_2 : List IOper := [⟨some 4, .fld 9 (.t 1), none⟩,
  ⟨some 5, .load none (.t 4), none⟩,
  ⟨some 6, .lenS (.t 5), none⟩,
  ⟨some 7, .bin .gtr (.t 6) (.c (.int .i64 131072)), none⟩,
  ⟨some 8, .mov (.t 7), none⟩,
  ⟨some 9, .fld 10 (.t 1), some (8, false)⟩,
  ⟨some 10, .load none (.t 9), some (8, false)⟩,
  ⟨some 11, .lenL (.t 10), some (8, false)⟩,
  ⟨some 12, .bin .gtr (.t 11) (.c (.int .i64 64)), some (8, false)⟩,
  ⟨some 13, .pick (.t 8) (.c (.bool true)) (.t 12), none⟩,
  ⟨some 14, .mov (.t 13), none⟩,
  ⟨some 15, .fld 10 (.t 1), some (14, false)⟩,
  ⟨some 16, .load none (.t 15), some (14, false)⟩,
  ⟨some 17, .mov (.t 3), some (14, false)⟩,
  ⟨some 18, .callF 85 [(.t 16), (.t 17)], some (14, false)⟩,
  ⟨some 19, .pick (.t 14) (.c (.bool true)) (.t 18), none⟩,
  ⟨some 2, .mov (.t 19), none⟩]
def b73 : ICode :=
 (.seq (.reg [(0, false), (1, false)] r73_0)
 (.seq (.reg [(0, false)] r73_1)
 (.seq (.reg [(0, false), (1, false), (2, false), (3, false), (4, false), (5, false), (6, false), (7, false), (8, false), (9, false), (10, false), (11, false), (12, false), (13, false), (14, false), (15, false), (16, false)] r73_2)
 .ret)))
def f73 : IFunc := { nt := 20, res := [((.t 2), none)], body := b73 }
def ps73 : List Phases := []
def ms73 : List (Option (List Nat)) := []
-- (chatelaine/msg.Msg).rising
def r74_0 : List IOper := [⟨some 1, .box 11 (.t 0), none⟩,
  ⟨some 2, .mov (.c (.bool false)), none⟩]
def r74_1 : List IOper := [⟨some 3, .mov (.c (.int .i64 1)), none⟩]
def r74_2 : List IOper := [⟨some 4, .mov (.t 3), none⟩,
  ⟨some 5, .fld 10 (.t 1), none⟩,
  ⟨some 6, .load none (.t 5), none⟩,
  ⟨some 7, .lenL (.t 6), none⟩,
  ⟨some 8, .bin .lss (.t 4) (.t 7), none⟩]
def r74_3 : List IOper := [⟨some 11, .fld 10 (.t 1), none⟩,
  ⟨some 12, .load none (.t 11), none⟩,
  ⟨some 13, .mov (.t 3), none⟩,
  ⟨some 14, .ixS 4 (.t 12) (.t 13), none⟩,
  ⟨some 15, .fld 0 (.t 14), none⟩,
  ⟨some 16, .load none (.t 15), none⟩,
  ⟨some 17, .fld 10 (.t 1), none⟩,
  ⟨some 18, .load none (.t 17), none⟩,
  ⟨some 19, .mov (.t 3), none⟩,
  ⟨some 20, .bin .sub (.t 19) (.c (.int .i64 1)), none⟩,
  ⟨some 21, .ixS 4 (.t 18) (.t 20), none⟩,
  ⟨some 22, .fld 0 (.t 21), none⟩,
  ⟨some 23, .load none (.t 22), none⟩,
  ⟨some 24, .bin .leq (.t 16) (.t 23), none⟩]
def r74_4 : List IOper := [⟨some 2, .mov (.c (.bool false)), none⟩]
def r74_5 : List IOper := [⟨some 9, .mov (.t 3), none⟩,
  ⟨some 10, .bin .add (.t 9) (.c (.int .i64 1)), none⟩,
  ⟨some 3, .mov (.t 10), none⟩]
def r74_6 : List IOper := [⟨some 2, .mov (.c (.bool true)), none⟩]
def b74 : ICode :=
 (.seq (.reg [(0, false), (1, false)] r74_0)
 (.seq (.seq (.reg [(0, false)] r74_1)
 (.seq (.block 0 (.loop (.seq (.mask [1, 3]) (.seq (.seq (.reg [(0, false), (1, false), (2, false), (3, false), (4, false)] r74_2)
 (.cond (.t 8) .skip
 (.exit 0)))
 (.seq (.seq (.block 1 (.seq (.reg [(0, false), (1, false), (2, false), (3, false), (4, false), (5, false), (6, false), (7, false), (8, false), (9, false), (10, false), (11, false), (12, false), (13, false)] r74_3)
 (.cond (.t 24) (.seq (.reg [(0, false)] r74_4)
 .ret)
 .skip))) (.mask [1, 3]))
 (.reg [(0, false), (1, false), (2, false)] r74_5)))))) (.mask [])))
 (.seq (.reg [(0, false)] r74_6)
 .ret)))
def f74 : IFunc := { nt := 25, res := [((.t 2), none)], body := b74 }
def ps74 : List Phases := [⟨[], [(0, false), (1, false), (2, false), (3, false), (4, false), (5, false), (6, false), (7, false), (8, false), (9, false), (10, false), (11, false), (12, false), (13, false)]⟩]
def ms74 : List (Option (List Nat)) := [some [1, 3], none, none, some [1, 3], some []]
-- chatelaine/chatelaineref02.Frame
def r75_0 : List IOper := [⟨some 4, .mov (.c (.str (⟨#[]⟩ : ByteArray))), none⟩]
def r75_1 : List IOper := [⟨some 6, .mov (.t 0), none⟩,
  ⟨some 7, .buildS 1 1 [(.int .u8 0)] [(0, (.t 6))], none⟩,
  ⟨some 8, .b2s (.t 7), none⟩,
  ⟨some 9, .mov (.t 1), none⟩,
  ⟨some 10, .lenS (.t 9), none⟩,
  ⟨some 11, .conv .u32 (.t 10), none⟩,
  ⟨some 12, .callF 86 [(.t 11), (.c (.int .i64 3))], none⟩,
  ⟨some 13, .bin .add (.t 8) (.t 12), none⟩,
  ⟨some 14, .mov (.t 1), none⟩,
  ⟨some 15, .bin .add (.t 13) (.t 14), none⟩,
  ⟨some 5, .mov (.t 15), none⟩]
def r75_2 : List IOper := [⟨some 16, .mov (.t 5), none⟩,
  ⟨some 17, .mov (.t 5), none⟩,
  ⟨some 18, .callF 87 [(.t 17)], none⟩,
  ⟨some 19, .callF 86 [(.t 18), (.c (.int .i64 4))], none⟩,
  ⟨some 20, .bin .add (.t 16) (.t 19), none⟩,
  ⟨some 4, .mov (.t 20), none⟩]
def b75 : ICode :=
 (.seq (.reg [(0, false)] r75_0)
 (.seq (.reg [(0, false), (3, false), (4, false), (5, false), (8, false), (6, false), (1, false), (2, false), (7, false), (9, false), (10, false)] r75_1)
 (.seq (.reg [(0, false), (1, false), (2, false), (3, false), (4, false), (5, false)] r75_2)
 .ret)))
def f75 : IFunc := { nt := 21, res := [((.t 4), none)], body := b75 }
def ps75 : List Phases := [⟨[([(0, false), (3, false), (4, false), (5, false), (8, false)], 6)], [(1, false), (2, false), (7, false), (9, false), (10, false)]⟩]
def ms75 : List (Option (List Nat)) := []
-- slices.Equal[[]chatelaine/msg.Entry,chatelaine/msg.Entry]
def r77_0 : List IOper := [⟨some 4, .mov (.c (.bool false)), none⟩]
def r77_1 : List IOper := [⟨some 6, .mov (.t 0), none⟩,
  ⟨some 7, .lenL (.t 6), none⟩,
  ⟨some 8, .mov (.t 1), none⟩,
  ⟨some 9, .lenL (.t 8), none⟩,
  ⟨some 10, .bin .neq (.t 7) (.t 9), none⟩]
def r77_2 : List IOper := [⟨some 4, .mov (.c (.bool false)), none⟩]
def r77_3 : List IOper := [⟨some 11, .mov (.t 0), none⟩,
  ⟨some 12, .lenL (.t 11), none⟩,
  ⟨some 13, .mov (.c (.int .i64 0)), none⟩]
def r77_4 : List IOper := [⟨some 14, .bin .lss (.t 13) (.t 12), none⟩]
def r77_5 : List IOper := [⟨some 15, .mov (.t 13), none⟩,
  ⟨some 5, .mov (.t 15), none⟩]
def r77_6 : List IOper := [⟨some 16, .mov (.t 0), none⟩,
  ⟨some 17, .mov (.t 5), none⟩,
  ⟨some 18, .ixS 4 (.t 16) (.t 17), none⟩,
  ⟨some 19, .load (some 4) (.t 18), none⟩,
  ⟨some 20, .mov (.t 1), none⟩,
  ⟨some 21, .mov (.t 5), none⟩,
  ⟨some 22, .ixS 4 (.t 20) (.t 21), none⟩,
  ⟨some 23, .load (some 4) (.t 22), none⟩,
  ⟨some 24, .eqs true [1, 1, 1, 2] (.t 19) (.t 23), none⟩]
def r77_7 : List IOper := [⟨some 4, .mov (.c (.bool false)), none⟩]
def r77_8 : List IOper := [⟨some 25, .bin .add (.t 13) (.c (.int .i64 1)), none⟩,
  ⟨some 13, .mov (.t 25), none⟩]
def r77_9 : List IOper := [⟨some 4, .mov (.c (.bool true)), none⟩]
def b77 : ICode :=
 (.seq (.reg [(0, false)] r77_0)
 (.seq (.seq (.reg [(0, false), (1, false), (2, false), (3, false), (4, false)] r77_1)
 (.cond (.t 10) (.seq (.reg [(0, false)] r77_2)
 .ret)
 .skip))
 (.seq (.seq (.reg [(0, false), (1, false), (2, false)] r77_3)
 (.seq (.block 0 (.loop (.seq (.mask [0, 1, 12, 13]) (.seq (.reg [(0, false)] r77_4)
 (.seq (.cond (.t 14) .skip
 (.exit 0))
 (.seq (.seq (.block 1 (.seq (.reg [(0, false), (1, false)] r77_5)
 (.seq (.reg [(0, false), (1, false), (2, false), (3, false), (4, false), (5, false), (6, false), (7, false), (8, false)] r77_6)
 (.cond (.t 24) (.seq (.reg [(0, false)] r77_7)
 .ret)
 .skip)))) (.mask [0, 1, 12, 13]))
 (.reg [(0, false), (1, false)] r77_8))))))) (.mask [])))
 (.seq (.reg [(0, false)] r77_9)
 .ret))))
def f77 : IFunc := { nt := 26, res := [((.t 4), none)], body := b77 }
def ps77 : List Phases := [⟨[], [(0, false), (1, false), (2, false), (3, false), (4, false), (5, false), (6, false), (7, false), (8, false)]⟩]
def ms77 : List (Option (List Nat)) := [none, some [0, 1, 12, 13], none, none, some [0, 1, 12, 13], some []]
-- chatelaine/msg.entry
def r78_0 : List IOper := [⟨some 4, .alloc [(.int .i64 0), (.int .u64 0), (.int .i64 0), (.str (⟨#[]⟩ : ByteArray))], none⟩]
def r78_1 : List IOper := [⟨some 6, .mov (.t 0), none⟩,
  ⟨some 7, .callF 21 [(.t 6), (.c (.int .i64 1099511627776))], none⟩,
  ⟨some 8, .build [(.int .i64 0), (.int .u64 0), (.int .i64 0), (.str (⟨#[]⟩ : ByteArray))] [(0, 1, (.t 7))], none⟩,
  ⟨some 5, .alloc [(.int .i64 0), (.int .u64 0), (.int .i64 0), (.str (⟨#[]⟩ : ByteArray))], none⟩,
  ⟨none, .store 4 (.t 5) (.t 8), none⟩]
def r78_2 : List IOper := [⟨some 9, .fld 0 (.t 5), none⟩,
  ⟨some 10, .load none (.t 9), none⟩,
  ⟨some 11, .mov (.t 1), none⟩,
  ⟨some 12, .bin .leq (.t 10) (.t 11), none⟩]
def r78_3 : List IOper := [⟨some 13, .mov (.t 0), none⟩,
  ⟨some 14, .callF 32 [(.t 13), (.c (.int .i64 4))], none⟩]
def r78_4 : List IOper := [⟨some 15, .mov (.t 0), none⟩,
  ⟨some 16, .callF 37 [(.t 15)], none⟩,
  ⟨some 17, .fld 1 (.t 5), none⟩,
  ⟨none, .store 2 (.t 17) (.t 16), none⟩]
def r78_5 : List IOper := [⟨some 18, .mov (.t 0), none⟩,
  ⟨some 19, .callF 25 [(.t 18), (.c (.int .i64 400))], none⟩,
  ⟨some 20, .fld 3 (.t 5), none⟩,
  ⟨none, .store 1 (.t 20) (.t 19), none⟩]
def r78_6 : List IOper := [⟨some 21, .load (some 4) (.t 5), none⟩,
  ⟨none, .store 4 (.t 4) (.t 21), none⟩]
def b78 : ICode :=
 (.seq (.reg [(0, false)] r78_0)
 (.seq (.reg [(0, false), (1, false), (2, false), (3, false), (4, false)] r78_1)
 (.seq (.seq (.reg [(0, false), (1, false), (2, false), (3, false)] r78_2)
 (.seq (.cond (.t 12) (.reg [(0, false), (1, false)] r78_3)
 .skip) (.mask [0, 4, 5])))
 (.seq (.reg [(0, false), (1, false), (2, false), (3, false)] r78_4)
 (.seq (.reg [(0, false), (1, false), (2, false), (3, false)] r78_5)
 (.seq (.reg [(0, false), (1, false)] r78_6)
 .ret))))))
def f78 : IFunc := { nt := 22, res := [((.t 4), some (some 4))], body := b78 }
def ps78 : List Phases := []
def ms78 : List (Option (List Nat)) := [some [0, 4, 5]]
-- chatelaine/chatelaineref02.Open
def r79_0 : List IOper := [⟨some 2, .alloc [(.int .u8 0), (.str (⟨#[]⟩ : ByteArray))], none⟩,
  ⟨some 3, .mov (.c (.int .i64 0)), none⟩]
def r79_1 : List IOper := [⟨some 5, .mov (.t 0), none⟩,
  ⟨some 6, .lenS (.t 5), none⟩,
  ⟨some 7, .bin .lss (.t 6) (.c (.int .i64 4)), none⟩]
def r79_2 : List IOper := [⟨some 8, .build [(.int .u8 0), (.str (⟨#[]⟩ : ByteArray))] [], none⟩,
  ⟨none, .store 2 (.t 2) (.t 8), none⟩,
  ⟨some 3, .mov (.c (.int .i64 3)), none⟩]
def r79_3 : List IOper := [⟨some 9, .mov (.t 0), none⟩,
  ⟨some 10, .ixStr (.t 9) (.c (.int .i64 0)), none⟩,
  ⟨some 11, .bin .eql (.t 10) (.c (.int .u8 0)), none⟩]
def r79_4 : List IOper := [⟨some 12, .build [(.int .u8 0), (.str (⟨#[]⟩ : ByteArray))] [], none⟩,
  ⟨none, .store 2 (.t 2) (.t 12), none⟩,
  ⟨some 3, .mov (.c (.int .i64 4)), none⟩]
def r79_5 : List IOper := [⟨some 13, .mov (.t 0), none⟩,
  ⟨some 14, .slcStr (.t 13) (some (.c (.int .i64 1))) (some (.c (.int .i64 4))), none⟩,
  ⟨some 15, .callF 88 [(.t 14)], none⟩,
  ⟨some 4, .mov (.t 15), none⟩]
def r79_6 : List IOper := [⟨some 16, .mov (.t 4), none⟩,
  ⟨some 17, .bin .gtr (.t 16) (.c (.int .i64 1048576)), none⟩]
def r79_7 : List IOper := [⟨some 18, .build [(.int .u8 0), (.str (⟨#[]⟩ : ByteArray))] [], none⟩,
  ⟨none, .store 2 (.t 2) (.t 18), none⟩,
  ⟨some 3, .mov (.c (.int .i64 6)), none⟩]
def r79_8 : List IOper := [⟨some 19, .mov (.t 0), none⟩,
  ⟨some 20, .lenS (.t 19), none⟩,
  ⟨some 21, .mov (.t 4), none⟩,
  ⟨some 22, .bin .add (.t 21) (.c (.int .i64 8)), none⟩,
  ⟨some 23, .bin .lss (.t 20) (.t 22), none⟩]
def r79_9 : List IOper := [⟨some 24, .build [(.int .u8 0), (.str (⟨#[]⟩ : ByteArray))] [], none⟩,
  ⟨none, .store 2 (.t 2) (.t 24), none⟩,
  ⟨some 3, .mov (.c (.int .i64 3)), none⟩]
def r79_10 : List IOper := [⟨some 25, .mov (.t 0), none⟩,
  ⟨some 26, .ixStr (.t 25) (.c (.int .i64 0)), none⟩,
  ⟨some 27, .mov (.t 0), none⟩,
  ⟨some 28, .mov (.t 4), none⟩,
  ⟨some 29, .bin .add (.c (.int .i64 4)) (.t 28), none⟩,
  ⟨some 30, .slcStr (.t 27) (some (.c (.int .i64 4))) (some (.t 29)), none⟩,
  ⟨some 31, .callF 75 [(.t 26), (.t 30)], none⟩,
  ⟨some 32, .mov (.t 0), none⟩,
  ⟨some 33, .mov (.t 4), none⟩,
  ⟨some 34, .bin .add (.t 33) (.c (.int .i64 8)), none⟩,
  ⟨some 35, .slcStr (.t 32) none (some (.t 34)), none⟩,
  ⟨some 36, .bin .neq (.t 31) (.t 35), none⟩]
def r79_11 : List IOper := [⟨some 37, .build [(.int .u8 0), (.str (⟨#[]⟩ : ByteArray))] [], none⟩,
  ⟨none, .store 2 (.t 2) (.t 37), none⟩,
  ⟨some 3, .mov (.c (.int .i64 5)), none⟩]
def r79_12 : List IOper := [⟨some 38, .mov (.t 0), none⟩,
  ⟨some 39, .ixStr (.t 38) (.c (.int .i64 0)), none⟩,
  ⟨some 40, .mov (.t 0), none⟩,
  ⟨some 41, .mov (.t 4), none⟩,
  ⟨some 42, .bin .add (.c (.int .i64 4)) (.t 41), none⟩,
  ⟨some 43, .slcStr (.t 40) (some (.c (.int .i64 4))) (some (.t 42)), none⟩,
  ⟨some 44, .build [(.int .u8 0), (.str (⟨#[]⟩ : ByteArray))] [(0, 1, (.t 39)), (1, 1, (.t 43))], none⟩,
  ⟨none, .store 2 (.t 2) (.t 44), none⟩,
  ⟨some 3, .mov (.c (.int .i64 0)), none⟩]
def b79 : ICode :=
 (.seq (.reg [(0, false), (1, false)] r79_0)
 (.seq (.seq (.reg [(0, false), (1, false), (2, false)] r79_1)
 (.cond (.t 7) (.seq (.reg [(0, false), (1, false), (2, false)] r79_2)
 .ret)
 .skip))
 (.seq (.seq (.reg [(0, false), (1, false), (2, false)] r79_3)
 (.cond (.t 11) (.seq (.reg [(0, false), (1, false), (2, false)] r79_4)
 .ret)
 .skip))
 (.seq (.reg [(0, false), (1, false), (2, false), (3, false)] r79_5)
 (.seq (.seq (.reg [(0, false), (1, false)] r79_6)
 (.cond (.t 17) (.seq (.reg [(0, false), (1, false), (2, false)] r79_7)
 .ret)
 .skip))
 (.seq (.seq (.reg [(0, false), (1, false), (2, false), (3, false), (4, false)] r79_8)
 (.cond (.t 23) (.seq (.reg [(0, false), (1, false), (2, false)] r79_9)
 .ret)
 .skip))
 (.seq (.seq (.reg [(0, false), (1, false), (2, false), (3, false), (4, false), (5, false), (7, false), (8, false), (9, false), (10, false), (6, false), (11, false)] r79_10)
 (.cond (.t 36) (.seq (.reg [(0, false), (1, false), (2, false)] r79_11)
 .ret)
 .skip))
 (.seq (.reg [(0, false), (1, false), (2, false), (3, false), (4, false), (5, false), (6, false), (7, false), (8, false)] r79_12)
 .ret))))))))
def f79 : IFunc := { nt := 45, res := [((.t 2), some (some 2)), ((.t 3), none)], body := b79 }
def ps79 : List Phases := [⟨[([(0, false), (1, false), (2, false), (3, false), (4, false), (5, false), (7, false), (8, false), (9, false), (10, false)], 6)], [(11, false)]⟩, ⟨[([(0, false), (1, false), (2, false), (3, false), (4, false), (5, false), (6, false)], 7)], [(8, false)]⟩]
def ms79 : List (Option (List Nat)) := [none, none, none, none, none]
-- chatelaine/chatelaineref01.wide
def r80_0 : List IOper := [⟨some 4, .mov (.c (.str (⟨#[]⟩ : ByteArray))), none⟩]
def r80_1 : List IOper := [⟨some 5, .mov (.c (.str (⟨#[]⟩ : ByteArray))), none⟩]
def r80_2 : List IOper := [⟨some 6, .mov (.c (.int .i64 0)), none⟩]
def r80_3 : List IOper := [⟨some 7, .mov (.t 6), none⟩,
  ⟨some 8, .mov (.t 1), none⟩,
  ⟨some 9, .bin .lss (.t 7) (.t 8), none⟩]
def r80_4 : List IOper := [⟨some 12, .mov (.t 0), none⟩,
  ⟨some 13, .bin .rem (.t 12) (.c (.int .u64 256)), none⟩,
  ⟨some 14, .conv .u8 (.t 13), none⟩,
  ⟨some 15, .buildS 1 1 [(.int .u8 0)] [(0, (.t 14))], none⟩,
  ⟨some 16, .b2s (.t 15), none⟩,
  ⟨some 17, .mov (.t 5), none⟩,
  ⟨some 18, .bin .add (.t 16) (.t 17), none⟩,
  ⟨some 5, .mov (.t 18), none⟩]
def r80_5 : List IOper := [⟨some 19, .mov (.t 0), none⟩,
  ⟨some 20, .bin .quo (.t 19) (.c (.int .u64 256)), none⟩,
  ⟨some 0, .mov (.t 20), none⟩]
def r80_6 : List IOper := [⟨some 10, .mov (.t 6), none⟩,
  ⟨some 11, .bin .add (.t 10) (.c (.int .i64 1)), none⟩,
  ⟨some 6, .mov (.t 11), none⟩]
def r80_7 : List IOper := [⟨some 21, .mov (.t 5), none⟩,
  ⟨some 4, .mov (.t 21), none⟩]
def b80 : ICode :=
 (.seq (.reg [(0, false)] r80_0)
 (.seq (.reg [(0, false)] r80_1)
 (.seq (.seq (.reg [(0, false)] r80_2)
 (.seq (.block 0 (.loop (.seq (.mask [0, 1, 5, 6]) (.seq (.seq (.reg [(0, false), (1, false), (2, false)] r80_3)
 (.cond (.t 9) .skip
 (.exit 0)))
 (.seq (.seq (.block 1 (.seq (.reg [(0, false), (1, false), (2, false), (3, false), (4, false), (5, false), (6, false), (7, false)] r80_4)
 (.reg [(0, false), (1, false), (2, false)] r80_5))) (.mask [0, 1, 5, 6]))
 (.reg [(0, false), (1, false), (2, false)] r80_6)))))) (.mask [5])))
 (.seq (.reg [(0, false), (1, false)] r80_7)
 .ret))))
def f80 : IFunc := { nt := 22, res := [((.t 4), none)], body := b80 }
def ps80 : List Phases := []
def ms80 : List (Option (List Nat)) := [some [0, 1, 5, 6], none, some [0, 1, 5, 6], some [5]]
-- chatelaine/seal.number
def r81_0 : List IOper := [⟨some 2, .mov (.c (.int .u32 0)), none⟩]
def r81_1 : List IOper := [⟨some 3, .mov (.c (.int .u32 0)), none⟩]
def r81_2 : List IOper := [⟨some 5, .mov (.t 0), none⟩,
  ⟨some 6, .lenS (.t 5), none⟩,
  ⟨some 7, .mov (.c (.int .i64 0)), none⟩]
def r81_3 : List IOper := [⟨some 8, .bin .lss (.t 7) (.t 6), none⟩]
def r81_4 : List IOper := [⟨some 9, .mov (.t 7), none⟩,
  ⟨some 4, .mov (.t 9), none⟩]
def r81_5 : List IOper := [⟨some 10, .mov (.t 3), none⟩,
  ⟨some 11, .bin .shl (.t 10) (.c (.int .u64 8)), none⟩,
  ⟨some 12, .mov (.t 0), none⟩,
  ⟨some 13, .mov (.t 4), none⟩,
  ⟨some 14, .ixStr (.t 12) (.t 13), none⟩,
  ⟨some 15, .conv .u32 (.t 14), none⟩,
  ⟨some 16, .bin .or (.t 11) (.t 15), none⟩,
  ⟨some 3, .mov (.t 16), none⟩]
def r81_6 : List IOper := [⟨some 17, .bin .add (.t 7) (.c (.int .i64 1)), none⟩,
  ⟨some 7, .mov (.t 17), none⟩]
def r81_7 : List IOper := [⟨some 18, .mov (.t 3), none⟩,
  ⟨some 2, .mov (.t 18), none⟩]
def b81 : ICode :=
 (.seq (.reg [(0, false)] r81_0)
 (.seq (.reg [(0, false)] r81_1)
 (.seq (.seq (.reg [(0, false), (1, false), (2, false)] r81_2)
 (.seq (.block 0 (.loop (.seq (.mask [0, 3, 6, 7]) (.seq (.reg [(0, false)] r81_3)
 (.seq (.cond (.t 8) .skip
 (.exit 0))
 (.seq (.seq (.block 1 (.seq (.reg [(0, false), (1, false)] r81_4)
 (.reg [(0, false), (1, false), (2, false), (3, false), (4, false), (5, false), (6, false), (7, false)] r81_5))) (.mask [0, 3, 6, 7]))
 (.reg [(0, false), (1, false)] r81_6))))))) (.mask [3])))
 (.seq (.reg [(0, false), (1, false)] r81_7)
 .ret))))
def f81 : IFunc := { nt := 19, res := [((.t 2), none)], body := b81 }
def ps81 : List Phases := []
def ms81 : List (Option (List Nat)) := [some [0, 3, 6, 7], none, some [0, 3, 6, 7], some [3]]
-- chatelaine/msg.within
def r82_0 : List IOper := [⟨some 4, .mov (.c (.bool false)), none⟩]
def r82_1 : List IOper := [⟨some 5, .mov (.t 0), none⟩,
  ⟨some 6, .bin .geq (.t 5) (.c (.int .i64 0)), none⟩,
  ⟨some 7, .mov (.t 6), none⟩,
  ⟨some 8, .mov (.t 0), some (7, true)⟩,
  ⟨some 9, .mov (.t 1), some (7, true)⟩,
  ⟨some 10, .bin .leq (.t 8) (.t 9), some (7, true)⟩,
  ⟨some 11, .pick (.t 7) (.t 10) (.c (.bool false)), none⟩,
  ⟨some 4, .mov (.t 11), none⟩]
def b82 : ICode :=
 (.seq (.reg [(0, false)] r82_0)
 (.seq (.reg [(0, false), (1, false), (2, false), (3, false), (4, false), (5, false), (6, false), (7, false)] r82_1)
 .ret))
def f82 : IFunc := { nt := 12, res := [((.t 4), none)], body := b82 }
def ps82 : List Phases := []
def ms82 : List (Option (List Nat)) := []
-- chatelaine/msg.sound
def r83_0 : List IOper := [⟨some 1, .box 2 (.t 0), none⟩,
  ⟨some 2, .mov (.c (.bool false)), none⟩]
def r83_1 : List IOper := [⟨some 3, .fld 1 (.t 1), none⟩,
  ⟨some 4, .load none (.t 3), none⟩,
  ⟨some 5, .callF 82 [(.t 4), (.c (.int .i64 11))], none⟩,
  ⟨some 6, .mov (.t 5), none⟩,
  ⟨some 7, .fld 0 (.t 1), some (6, true)⟩,
  ⟨some 8, .load none (.t 7), some (6, true)⟩,
  ⟨some 9, .bin .gtr (.t 8) (.c (.int .u64 0)), some (6, true)⟩,
  ⟨some 10, .mov (.t 9), some (6, true)⟩,
  ⟨some 11, .fld 1 (.t 1), some (10, false)⟩,
  ⟨some 12, .load none (.t 11), some (10, false)⟩,
  ⟨some 13, .bin .eql (.t 12) (.c (.int .i64 0)), some (10, false)⟩,
  ⟨some 14, .pick (.t 10) (.c (.bool true)) (.t 13), some (6, true)⟩,
  ⟨some 15, .pick (.t 6) (.t 14) (.c (.bool false)), none⟩,
  ⟨some 2, .mov (.t 15), none⟩]
def b83 : ICode :=
 (.seq (.reg [(0, false), (1, false)] r83_0)
 (.seq (.reg [(0, false), (1, false), (2, false), (3, false), (4, false), (5, false), (6, false), (7, false), (8, false), (9, false), (10, false), (11, false), (12, false), (13, false)] r83_1)
 .ret))
def f83 : IFunc := { nt := 16, res := [((.t 2), none)], body := b83 }
def ps83 : List Phases := []
def ms83 : List (Option (List Nat)) := []
-- (chatelaine/msg.Msg).great$1
def r84_0 : List IOper := [⟨some 1, .box 4 (.t 0), none⟩,
  ⟨some 2, .mov (.c (.bool false)), none⟩]
def r84_1 : List IOper := [⟨some 3, .fld 3 (.t 1), none⟩,
  ⟨some 4, .load none (.t 3), none⟩,
  ⟨some 5, .lenS (.t 4), none⟩,
  ⟨some 6, .bin .gtr (.t 5) (.c (.int .i64 400)), none⟩,
  ⟨some 2, .mov (.t 6), none⟩]
def b84 : ICode :=
 (.seq (.reg [(0, false), (1, false)] r84_0)
 (.seq (.reg [(0, false), (1, false), (2, false), (3, false), (4, false)] r84_1)
 .ret))
def f84 : IFunc := { nt := 7, res := [((.t 2), none)], body := b84 }
def ps84 : List Phases := []
def ms84 : List (Option (List Nat)) := []
-- slices.ContainsFunc[[]chatelaine/msg.Entry,chatelaine/msg.Entry]
def r85_0 : List IOper := [⟨some 4, .mov (.c (.bool false)), none⟩]
def r85_1 : List IOper := [⟨some 5, .mov (.t 0), none⟩,
  ⟨some 6, .mov (.t 1), none⟩,
  ⟨some 7, .callF 89 [(.t 5), (.t 6)], none⟩,
  ⟨some 8, .bin .geq (.t 7) (.c (.int .i64 0)), none⟩,
  ⟨some 4, .mov (.t 8), none⟩]
def b85 : ICode :=
 (.seq (.reg [(0, false)] r85_0)
 (.seq (.reg [(0, false), (1, false), (2, false), (3, false), (4, false)] r85_1)
 .ret))
def f85 : IFunc := { nt := 9, res := [((.t 4), none)], body := b85 }
def ps85 : List Phases := []
def ms85 : List (Option (List Nat)) := []
-- chatelaine/chatelaineref02.Digits
def r86_0 : List IOper := [⟨some 4, .mov (.c (.str (⟨#[]⟩ : ByteArray))), none⟩]
def r86_1 : List IOper := [⟨some 5, .mov (.c (.str (⟨#[]⟩ : ByteArray))), none⟩]
def r86_2 : List IOper := [⟨some 6, .mov (.c (.int .i64 0)), none⟩]
def r86_3 : List IOper := [⟨some 7, .mov (.t 6), none⟩,
  ⟨some 8, .mov (.t 1), none⟩,
  ⟨some 9, .bin .lss (.t 7) (.t 8), none⟩]
def r86_4 : List IOper := [⟨some 12, .mov (.t 0), none⟩,
  ⟨some 13, .bin .rem (.t 12) (.c (.int .u32 256)), none⟩,
  ⟨some 14, .conv .u8 (.t 13), none⟩,
  ⟨some 15, .buildS 1 1 [(.int .u8 0)] [(0, (.t 14))], none⟩,
  ⟨some 16, .b2s (.t 15), none⟩,
  ⟨some 17, .mov (.t 5), none⟩,
  ⟨some 18, .bin .add (.t 16) (.t 17), none⟩,
  ⟨some 5, .mov (.t 18), none⟩]
def r86_5 : List IOper := [⟨some 19, .mov (.t 0), none⟩,
  ⟨some 20, .bin .quo (.t 19) (.c (.int .u32 256)), none⟩,
  ⟨some 0, .mov (.t 20), none⟩]
def r86_6 : List IOper := [⟨some 10, .mov (.t 6), none⟩,
  ⟨some 11, .bin .add (.t 10) (.c (.int .i64 1)), none⟩,
  ⟨some 6, .mov (.t 11), none⟩]
def r86_7 : List IOper := [⟨some 21, .mov (.t 5), none⟩,
  ⟨some 4, .mov (.t 21), none⟩]
def b86 : ICode :=
 (.seq (.reg [(0, false)] r86_0)
 (.seq (.reg [(0, false)] r86_1)
 (.seq (.seq (.reg [(0, false)] r86_2)
 (.seq (.block 0 (.loop (.seq (.mask [0, 1, 5, 6]) (.seq (.seq (.reg [(0, false), (1, false), (2, false)] r86_3)
 (.cond (.t 9) .skip
 (.exit 0)))
 (.seq (.seq (.block 1 (.seq (.reg [(0, false), (1, false), (2, false), (3, false), (4, false), (5, false), (6, false), (7, false)] r86_4)
 (.reg [(0, false), (1, false), (2, false)] r86_5))) (.mask [0, 1, 5, 6]))
 (.reg [(0, false), (1, false), (2, false)] r86_6)))))) (.mask [5])))
 (.seq (.reg [(0, false), (1, false)] r86_7)
 .ret))))
def f86 : IFunc := { nt := 22, res := [((.t 4), none)], body := b86 }
def ps86 : List Phases := []
def ms86 : List (Option (List Nat)) := [some [0, 1, 5, 6], none, some [0, 1, 5, 6], some [5]]
-- chatelaine/chatelaineref02.Sum
def r87_0 : List IOper := [⟨some 2, .mov (.c (.int .u32 0)), none⟩]
def r87_1 : List IOper := [⟨some 3, .mov (.c (.int .u32 4294967295)), none⟩]
def r87_2 : List IOper := [⟨some 4, .mov (.c (.int .i64 0)), none⟩]
def r87_3 : List IOper := [⟨some 8, .mov (.t 4), none⟩,
  ⟨some 9, .mov (.t 0), none⟩,
  ⟨some 10, .lenS (.t 9), none⟩,
  ⟨some 11, .bin .lss (.t 8) (.t 10), none⟩]
def r87_4 : List IOper := [⟨some 14, .mov (.t 0), none⟩,
  ⟨some 15, .mov (.t 4), none⟩,
  ⟨some 16, .ixStr (.t 14) (.t 15), none⟩,
  ⟨some 5, .mov (.t 16), none⟩]
def r87_5 : List IOper := [⟨some 6, .mov (.c (.int .i64 0)), none⟩]
def r87_6 : List IOper := [⟨some 17, .mov (.t 6), none⟩,
  ⟨some 18, .bin .lss (.t 17) (.c (.int .i64 8)), none⟩]
def r87_7 : List IOper := [⟨some 21, .mov (.t 3), none⟩,
  ⟨some 22, .bin .rem (.t 21) (.c (.int .u32 2)), none⟩,
  ⟨some 23, .mov (.t 5), none⟩,
  ⟨some 24, .bin .rem (.t 23) (.c (.int .u8 2)), none⟩,
  ⟨some 25, .conv .u32 (.t 24), none⟩,
  ⟨some 26, .bin .neq (.t 22) (.t 25), none⟩,
  ⟨some 7, .mov (.t 26), none⟩]
def r87_8 : List IOper := [⟨some 27, .mov (.t 3), none⟩,
  ⟨some 28, .bin .quo (.t 27) (.c (.int .u32 2)), none⟩,
  ⟨some 3, .mov (.t 28), none⟩]
def r87_9 : List IOper := [⟨some 29, .mov (.t 5), none⟩,
  ⟨some 30, .bin .quo (.t 29) (.c (.int .u8 2)), none⟩,
  ⟨some 5, .mov (.t 30), none⟩]
def r87_10 : List IOper := [⟨some 31, .mov (.t 7), none⟩]
def r87_11 : List IOper := [⟨some 32, .mov (.t 3), none⟩,
  ⟨some 33, .bin .xor (.t 32) (.c (.int .u32 3988292384)), none⟩,
  ⟨some 3, .mov (.t 33), none⟩]
def r87_12 : List IOper := [⟨some 19, .mov (.t 6), none⟩,
  ⟨some 20, .bin .add (.t 19) (.c (.int .i64 1)), none⟩,
  ⟨some 6, .mov (.t 20), none⟩]
def r87_13 : List IOper := [⟨some 12, .mov (.t 4), none⟩,
  ⟨some 13, .bin .add (.t 12) (.c (.int .i64 1)), none⟩,
  ⟨some 4, .mov (.t 13), none⟩]
def r87_14 : List IOper := [⟨some 34, .mov (.t 3), none⟩,
  ⟨some 35, .bin .sub (.c (.int .u32 4294967295)) (.t 34), none⟩,
  ⟨some 2, .mov (.t 35), none⟩]
def b87 : ICode :=
 (.seq (.reg [(0, false)] r87_0)
 (.seq (.reg [(0, false)] r87_1)
 (.seq (.seq (.reg [(0, false)] r87_2)
 (.seq (.block 0 (.loop (.seq (.mask [0, 3, 4]) (.seq (.seq (.reg [(0, false), (1, false), (2, false), (3, false)] r87_3)
 (.cond (.t 11) .skip
 (.exit 0)))
 (.seq (.seq (.block 1 (.seq (.reg [(0, false), (1, false), (2, false), (3, false)] r87_4)
 (.seq (.reg [(0, false)] r87_5)
 (.seq (.block 2 (.loop (.seq (.mask [0, 3, 4, 5, 6]) (.seq (.seq (.reg [(0, false), (1, false)] r87_6)
 (.cond (.t 18) .skip
 (.exit 2)))
 (.seq (.seq (.block 3 (.seq (.reg [(0, false), (1, false), (2, false), (3, false), (4, false), (5, false), (6, false)] r87_7)
 (.seq (.reg [(0, false), (1, false), (2, false)] r87_8)
 (.seq (.reg [(0, false), (1, false), (2, false)] r87_9)
 (.seq (.reg [(0, false)] r87_10)
 (.seq (.cond (.t 31) (.reg [(0, false), (1, false), (2, false)] r87_11)
 .skip) (.mask [0, 3, 4, 5, 6]))))))) (.mask [0, 3, 4, 5, 6]))
 (.reg [(0, false), (1, false), (2, false)] r87_12)))))) (.mask [0, 3, 4]))))) (.mask [0, 3, 4]))
 (.reg [(0, false), (1, false), (2, false)] r87_13)))))) (.mask [3])))
 (.seq (.reg [(0, false), (1, false), (2, false)] r87_14)
 .ret))))
def f87 : IFunc := { nt := 36, res := [((.t 2), none)], body := b87 }
def ps87 : List Phases := []
def ms87 : List (Option (List Nat)) := [some [0, 3, 4], none, some [0, 3, 4, 5, 6], none, some [0, 3, 4, 5, 6], some [0, 3, 4, 5, 6], some [0, 3, 4], some [0, 3, 4], some [3]]
-- chatelaine/chatelaineref02.number
def r88_0 : List IOper := [⟨some 2, .mov (.c (.int .i64 0)), none⟩]
def r88_1 : List IOper := [⟨some 3, .mov (.c (.int .i64 0)), none⟩]
def r88_2 : List IOper := [⟨some 4, .mov (.c (.int .i64 0)), none⟩]
def r88_3 : List IOper := [⟨some 5, .mov (.t 4), none⟩,
  ⟨some 6, .mov (.t 0), none⟩,
  ⟨some 7, .lenS (.t 6), none⟩,
  ⟨some 8, .bin .lss (.t 5) (.t 7), none⟩]
def r88_4 : List IOper := [⟨some 11, .mov (.t 3), none⟩,
  ⟨some 12, .bin .mul (.c (.int .i64 256)) (.t 11), none⟩,
  ⟨some 13, .mov (.t 0), none⟩,
  ⟨some 14, .mov (.t 4), none⟩,
  ⟨some 15, .ixStr (.t 13) (.t 14), none⟩,
  ⟨some 16, .conv .i64 (.t 15), none⟩,
  ⟨some 17, .bin .add (.t 12) (.t 16), none⟩,
  ⟨some 3, .mov (.t 17), none⟩]
def r88_5 : List IOper := [⟨some 9, .mov (.t 4), none⟩,
  ⟨some 10, .bin .add (.t 9) (.c (.int .i64 1)), none⟩,
  ⟨some 4, .mov (.t 10), none⟩]
def r88_6 : List IOper := [⟨some 18, .mov (.t 3), none⟩,
  ⟨some 2, .mov (.t 18), none⟩]
def b88 : ICode :=
 (.seq (.reg [(0, false)] r88_0)
 (.seq (.reg [(0, false)] r88_1)
 (.seq (.seq (.reg [(0, false)] r88_2)
 (.seq (.block 0 (.loop (.seq (.mask [0, 3, 4]) (.seq (.seq (.reg [(0, false), (1, false), (2, false), (3, false)] r88_3)
 (.cond (.t 8) .skip
 (.exit 0)))
 (.seq (.seq (.block 1 (.reg [(0, false), (1, false), (2, false), (3, false), (4, false), (5, false), (6, false), (7, false)] r88_4)) (.mask [0, 3, 4]))
 (.reg [(0, false), (1, false), (2, false)] r88_5)))))) (.mask [3])))
 (.seq (.reg [(0, false), (1, false)] r88_6)
 .ret))))
def f88 : IFunc := { nt := 19, res := [((.t 2), none)], body := b88 }
def ps88 : List Phases := []
def ms88 : List (Option (List Nat)) := [some [0, 3, 4], none, some [0, 3, 4], some [3]]
-- slices.IndexFunc[[]chatelaine/msg.Entry,chatelaine/msg.Entry]
def r89_0 : List IOper := [⟨some 4, .mov (.c (.int .i64 0)), none⟩]
def r89_1 : List IOper := [⟨some 6, .mov (.t 0), none⟩,
  ⟨some 7, .lenL (.t 6), none⟩,
  ⟨some 8, .mov (.c (.int .i64 0)), none⟩]
def r89_2 : List IOper := [⟨some 9, .bin .lss (.t 8) (.t 7), none⟩]
def r89_3 : List IOper := [⟨some 10, .mov (.t 8), none⟩,
  ⟨some 5, .mov (.t 10), none⟩]
def r89_4 : List IOper := [⟨some 11, .mov (.t 1), none⟩,
  ⟨some 12, .mov (.t 0), none⟩,
  ⟨some 13, .mov (.t 5), none⟩,
  ⟨some 14, .ixS 4 (.t 12) (.t 13), none⟩,
  ⟨some 15, .load (some 4) (.t 14), none⟩,
  ⟨some 16, .callV (.t 11) [(.t 15)], none⟩]
def r89_5 : List IOper := [⟨some 17, .mov (.t 5), none⟩,
  ⟨some 4, .mov (.t 17), none⟩]
def r89_6 : List IOper := [⟨some 18, .bin .add (.t 8) (.c (.int .i64 1)), none⟩,
  ⟨some 8, .mov (.t 18), none⟩]
def r89_7 : List IOper := [⟨some 4, .mov (.c (.int .i64 (-1))), none⟩]
def b89 : ICode :=
 (.seq (.reg [(0, false)] r89_0)
 (.seq (.seq (.reg [(0, false), (1, false), (2, false)] r89_1)
 (.seq (.block 0 (.loop (.seq (.mask [0, 1, 7, 8]) (.seq (.reg [(0, false)] r89_2)
 (.seq (.cond (.t 9) .skip
 (.exit 0))
 (.seq (.seq (.block 1 (.seq (.reg [(0, false), (1, false)] r89_3)
 (.seq (.reg [(0, false), (1, false), (2, false), (3, false), (4, false), (5, false)] r89_4)
 (.cond (.t 16) (.seq (.reg [(0, false), (1, false)] r89_5)
 .ret)
 .skip)))) (.mask [0, 1, 7, 8]))
 (.reg [(0, false), (1, false)] r89_6))))))) (.mask [])))
 (.seq (.reg [(0, false)] r89_7)
 .ret)))
def f89 : IFunc := { nt := 19, res := [((.t 4), none)], body := b89 }
def ps89 : List Phases := []
def ms89 : List (Option (List Nat)) := [some [0, 1, 7, 8], none, none, some [0, 1, 7, 8], some []]
theorem ok12 : rfunc Try.prog Try.f12 ps12 ms12 = some f12 := by kernel_rfl
theorem ok16 : rfunc Try.prog Try.f16 ps16 ms16 = some f16 := by kernel_rfl
theorem ok17 : rfunc Try.prog Try.f17 ps17 ms17 = some f17 := by kernel_rfl
theorem ok18 : rfunc Try.prog Try.f18 ps18 ms18 = some f18 := by kernel_rfl
theorem ok19 : rfunc Try.prog Try.f19 ps19 ms19 = some f19 := by kernel_rfl
theorem ok20 : rfunc Try.prog Try.f20 ps20 ms20 = some f20 := by kernel_rfl
theorem ok21 : rfunc Try.prog Try.f21 ps21 ms21 = some f21 := by kernel_rfl
theorem ok22 : rfunc Try.prog Try.f22 ps22 ms22 = some f22 := by kernel_rfl
theorem ok23 : rfunc Try.prog Try.f23 ps23 ms23 = some f23 := by kernel_rfl
theorem ok24 : rfunc Try.prog Try.f24 ps24 ms24 = some f24 := by kernel_rfl
theorem ok25 : rfunc Try.prog Try.f25 ps25 ms25 = some f25 := by kernel_rfl
theorem ok26 : rfunc Try.prog Try.f26 ps26 ms26 = some f26 := by kernel_rfl
theorem ok29 : rfunc Try.prog Try.f29 ps29 ms29 = some f29 := by kernel_rfl
theorem ok30 : rfunc Try.prog Try.f30 ps30 ms30 = some f30 := by kernel_rfl
theorem ok31 : rfunc Try.prog Try.f31 ps31 ms31 = some f31 := by kernel_rfl
theorem ok32 : rfunc Try.prog Try.f32 ps32 ms32 = some f32 := by kernel_rfl
theorem ok35 : rfunc Try.prog Try.f35 ps35 ms35 = some f35 := by kernel_rfl
theorem ok37 : rfunc Try.prog Try.f37 ps37 ms37 = some f37 := by kernel_rfl
theorem ok38 : rfunc Try.prog Try.f38 ps38 ms38 = some f38 := by kernel_rfl
theorem ok39 : rfunc Try.prog Try.f39 ps39 ms39 = some f39 := by kernel_rfl
theorem ok40 : rfunc Try.prog Try.f40 ps40 ms40 = some f40 := by kernel_rfl
theorem ok41 : rfunc Try.prog Try.f41 ps41 ms41 = some f41 := by kernel_rfl
theorem ok42 : rfunc Try.prog Try.f42 ps42 ms42 = some f42 := by kernel_rfl
theorem ok44 : rfunc Try.prog Try.f44 ps44 ms44 = some f44 := by kernel_rfl
theorem ok45 : rfunc Try.prog Try.f45 ps45 ms45 = some f45 := by kernel_rfl
theorem ok47 : rfunc Try.prog Try.f47 ps47 ms47 = some f47 := by kernel_rfl
theorem ok49 : rfunc Try.prog Try.f49 ps49 ms49 = some f49 := by kernel_rfl
theorem ok50 : rfunc Try.prog Try.f50 ps50 ms50 = some f50 := by kernel_rfl
theorem ok52 : rfunc Try.prog Try.f52 ps52 ms52 = some f52 := by kernel_rfl
theorem ok55 : rfunc Try.prog Try.f55 ps55 ms55 = some f55 := by kernel_rfl
theorem ok56 : rfunc Try.prog Try.f56 ps56 ms56 = some f56 := by kernel_rfl
theorem ok57 : rfunc Try.prog Try.f57 ps57 ms57 = some f57 := by kernel_rfl
theorem ok61 : rfunc Try.prog Try.f61 ps61 ms61 = some f61 := by kernel_rfl
theorem ok62 : rfunc Try.prog Try.f62 ps62 ms62 = some f62 := by kernel_rfl
theorem ok63 : rfunc Try.prog Try.f63 ps63 ms63 = some f63 := by kernel_rfl
theorem ok64 : rfunc Try.prog Try.f64 ps64 ms64 = some f64 := by kernel_rfl
theorem ok65 : rfunc Try.prog Try.f65 ps65 ms65 = some f65 := by kernel_rfl
theorem ok67 : rfunc Try.prog Try.f67 ps67 ms67 = some f67 := by kernel_rfl
theorem ok68 : rfunc Try.prog Try.f68 ps68 ms68 = some f68 := by kernel_rfl
theorem ok69 : rfunc Try.prog Try.f69 ps69 ms69 = some f69 := by kernel_rfl
theorem ok72 : rfunc Try.prog Try.f72 ps72 ms72 = some f72 := by kernel_rfl
theorem ok73 : rfunc Try.prog Try.f73 ps73 ms73 = some f73 := by kernel_rfl
theorem ok74 : rfunc Try.prog Try.f74 ps74 ms74 = some f74 := by kernel_rfl
theorem ok75 : rfunc Try.prog Try.f75 ps75 ms75 = some f75 := by kernel_rfl
theorem ok77 : rfunc Try.prog Try.f77 ps77 ms77 = some f77 := by kernel_rfl
theorem ok78 : rfunc Try.prog Try.f78 ps78 ms78 = some f78 := by kernel_rfl
theorem ok79 : rfunc Try.prog Try.f79 ps79 ms79 = some f79 := by kernel_rfl
theorem ok80 : rfunc Try.prog Try.f80 ps80 ms80 = some f80 := by kernel_rfl
theorem ok81 : rfunc Try.prog Try.f81 ps81 ms81 = some f81 := by kernel_rfl
theorem ok82 : rfunc Try.prog Try.f82 ps82 ms82 = some f82 := by kernel_rfl
theorem ok83 : rfunc Try.prog Try.f83 ps83 ms83 = some f83 := by kernel_rfl
theorem ok84 : rfunc Try.prog Try.f84 ps84 ms84 = some f84 := by kernel_rfl
theorem ok85 : rfunc Try.prog Try.f85 ps85 ms85 = some f85 := by kernel_rfl
theorem ok86 : rfunc Try.prog Try.f86 ps86 ms86 = some f86 := by kernel_rfl
theorem ok87 : rfunc Try.prog Try.f87 ps87 ms87 = some f87 := by kernel_rfl
theorem ok88 : rfunc Try.prog Try.f88 ps88 ms88 = some f88 := by kernel_rfl
theorem ok89 : rfunc Try.prog Try.f89 ps89 ms89 = some f89 := by kernel_rfl
def T : FuncId → Option IFunc
  | 12 => some f12
  | 16 => some f16
  | 17 => some f17
  | 18 => some f18
  | 19 => some f19
  | 20 => some f20
  | 21 => some f21
  | 22 => some f22
  | 23 => some f23
  | 24 => some f24
  | 25 => some f25
  | 26 => some f26
  | 29 => some f29
  | 30 => some f30
  | 31 => some f31
  | 32 => some f32
  | 35 => some f35
  | 37 => some f37
  | 38 => some f38
  | 39 => some f39
  | 40 => some f40
  | 41 => some f41
  | 42 => some f42
  | 44 => some f44
  | 45 => some f45
  | 47 => some f47
  | 49 => some f49
  | 50 => some f50
  | 52 => some f52
  | 55 => some f55
  | 56 => some f56
  | 57 => some f57
  | 61 => some f61
  | 62 => some f62
  | 63 => some f63
  | 64 => some f64
  | 65 => some f65
  | 67 => some f67
  | 68 => some f68
  | 69 => some f69
  | 72 => some f72
  | 73 => some f73
  | 74 => some f74
  | 75 => some f75
  | 77 => some f77
  | 78 => some f78
  | 79 => some f79
  | 80 => some f80
  | 81 => some f81
  | 82 => some f82
  | 83 => some f83
  | 84 => some f84
  | 85 => some f85
  | 86 => some f86
  | 87 => some f87
  | 88 => some f88
  | 89 => some f89
  | _ => none
theorem T_ok : TOk Try.prog T := by
  intro f i h
  unfold T at h
  split at h <;> cases h
  · exact .inl ⟨_, _, _, Try.func12, ok12⟩
  · exact .inl ⟨_, _, _, Try.func16, ok16⟩
  · exact .inl ⟨_, _, _, Try.func17, ok17⟩
  · exact .inl ⟨_, _, _, Try.func18, ok18⟩
  · exact .inl ⟨_, _, _, Try.func19, ok19⟩
  · exact .inl ⟨_, _, _, Try.func20, ok20⟩
  · exact .inl ⟨_, _, _, Try.func21, ok21⟩
  · exact .inl ⟨_, _, _, Try.func22, ok22⟩
  · exact .inl ⟨_, _, _, Try.func23, ok23⟩
  · exact .inl ⟨_, _, _, Try.func24, ok24⟩
  · exact .inl ⟨_, _, _, Try.func25, ok25⟩
  · exact .inl ⟨_, _, _, Try.func26, ok26⟩
  · exact .inl ⟨_, _, _, Try.func29, ok29⟩
  · exact .inl ⟨_, _, _, Try.func30, ok30⟩
  · exact .inl ⟨_, _, _, Try.func31, ok31⟩
  · exact .inl ⟨_, _, _, Try.func32, ok32⟩
  · exact .inl ⟨_, _, _, Try.func35, ok35⟩
  · exact .inl ⟨_, _, _, Try.func37, ok37⟩
  · exact .inl ⟨_, _, _, Try.func38, ok38⟩
  · exact .inl ⟨_, _, _, Try.func39, ok39⟩
  · exact .inl ⟨_, _, _, Try.func40, ok40⟩
  · exact .inl ⟨_, _, _, Try.func41, ok41⟩
  · exact .inl ⟨_, _, _, Try.func42, ok42⟩
  · exact .inl ⟨_, _, _, Try.func44, ok44⟩
  · exact .inl ⟨_, _, _, Try.func45, ok45⟩
  · exact .inl ⟨_, _, _, Try.func47, ok47⟩
  · exact .inl ⟨_, _, _, Try.func49, ok49⟩
  · exact .inl ⟨_, _, _, Try.func50, ok50⟩
  · exact .inl ⟨_, _, _, Try.func52, ok52⟩
  · exact .inl ⟨_, _, _, Try.func55, ok55⟩
  · exact .inl ⟨_, _, _, Try.func56, ok56⟩
  · exact .inl ⟨_, _, _, Try.func57, ok57⟩
  · exact .inl ⟨_, _, _, Try.func61, ok61⟩
  · exact .inl ⟨_, _, _, Try.func62, ok62⟩
  · exact .inl ⟨_, _, _, Try.func63, ok63⟩
  · exact .inl ⟨_, _, _, Try.func64, ok64⟩
  · exact .inl ⟨_, _, _, Try.func65, ok65⟩
  · exact .inl ⟨_, _, _, Try.func67, ok67⟩
  · exact .inl ⟨_, _, _, Try.func68, ok68⟩
  · exact .inl ⟨_, _, _, Try.func69, ok69⟩
  · exact .inl ⟨_, _, _, Try.func72, ok72⟩
  · exact .inl ⟨_, _, _, Try.func73, ok73⟩
  · exact .inl ⟨_, _, _, Try.func74, ok74⟩
  · exact .inl ⟨_, _, _, Try.func75, ok75⟩
  · exact .inl ⟨_, _, _, Try.func77, ok77⟩
  · exact .inl ⟨_, _, _, Try.func78, ok78⟩
  · exact .inl ⟨_, _, _, Try.func79, ok79⟩
  · exact .inl ⟨_, _, _, Try.func80, ok80⟩
  · exact .inl ⟨_, _, _, Try.func81, ok81⟩
  · exact .inl ⟨_, _, _, Try.func82, ok82⟩
  · exact .inl ⟨_, _, _, Try.func83, ok83⟩
  · exact .inl ⟨_, _, _, Try.func84, ok84⟩
  · exact .inl ⟨_, _, _, Try.func85, ok85⟩
  · exact .inl ⟨_, _, _, Try.func86, ok86⟩
  · exact .inl ⟨_, _, _, Try.func87, ok87⟩
  · exact .inl ⟨_, _, _, Try.func88, ok88⟩
  · exact .inl ⟨_, _, _, Try.func89, ok89⟩
end Go.Proofs.YtgekngfnhhdamaaI
