/- What the statement's proof needs (joined out of several texts); no conditions. -/
import Derived.Test.YtgekngfnhhdamaaProg
import Derived.Test.YtgekngfnhhdamaaM25
/- The functions of the laws, told as the machine's; no conditions. -/
set_option maxRecDepth 100000
set_option linter.unusedVariables false
namespace Go.Proofs.YtgekngfnhhdamaaI
open Go Go.Proofs.YtgekngfnhhdamaaM
-- chatelaine/chatelainelaw10.MsgChecks
def r9_0 : List IOper := [⟨some 1, .box 11 (.t 0), none⟩,
  ⟨some 2, .mov (.c (.bool false)), none⟩]
def r9_1 : List IOper := [⟨some 5, .callF 45 [], none⟩,
  ⟨some 6, .un .not (.t 5), none⟩]
def r9_2 : List IOper := [⟨some 2, .mov (.c (.bool false)), none⟩]
def r9_3 : List IOper := [⟨some 7, .load (some 11) (.t 1), none⟩,
  ⟨some 8, .callF 46 [(.t 7)], none⟩,
  ⟨none, .store 11 (.t 1) (.t 8), none⟩]
def r9_4 : List IOper := [⟨some 9, .load (some 11) (.t 1), none⟩,
  ⟨some 10, .callF 47 [(.t 9)], none⟩,
  ⟨some 3, .alloc [(.int .i64 0), (.int .i64 0), (.int .i64 0), (.int .i64 0), (.int .u64 0), (.int .i64 0), (.int .i64 0), (.int .i64 0), (.bool false), (.str (⟨#[]⟩ : ByteArray)), .nils], none⟩,
  ⟨none, .store 11 (.t 3) (.t 10), none⟩]
def r9_5 : List IOper := [⟨some 11, .load (some 11) (.t 1), none⟩,
  ⟨some 12, .callF 48 [(.t 11)], none⟩,
  ⟨some 4, .mov (.t 12), none⟩]
def r9_6 : List IOper := [⟨some 13, .load (some 11) (.t 3), none⟩,
  ⟨some 14, .callF 49 [(.t 13)], none⟩,
  ⟨some 15, .mov (.t 4), none⟩,
  ⟨some 16, .bin .neq (.t 14) (.t 15), none⟩]
def r9_7 : List IOper := [⟨some 2, .mov (.c (.bool false)), none⟩]
def r9_8 : List IOper := [⟨some 17, .mov (.t 4), none⟩,
  ⟨some 18, .bin .neq (.t 17) (.c (.int .i64 0)), none⟩]
def r9_9 : List IOper := [⟨some 19, .load (some 11) (.t 3), none⟩,
  ⟨some 20, .callF 50 [(.t 19)], none⟩,
  ⟨some 21, .bin .eql (.t 20) (.c (.str (⟨#[]⟩ : ByteArray))), none⟩,
  ⟨some 2, .mov (.t 21), none⟩]
def r9_10 : List IOper := [⟨some 22, .load (some 11) (.t 3), none⟩,
  ⟨some 23, .callF 50 [(.t 22)], none⟩,
  ⟨some 24, .load (some 11) (.t 1), none⟩,
  ⟨some 25, .callF 51 [(.t 24)], none⟩,
  ⟨some 26, .bin .eql (.t 23) (.t 25), none⟩,
  ⟨some 2, .mov (.t 26), none⟩]
def b9 : ICode :=
 (.seq (.reg [(0, false), (1, false)] r9_0)
 (.seq (.seq (.reg [(0, false), (1, false)] r9_1)
 (.cond (.t 6) (.seq (.reg [(0, false)] r9_2)
 .ret)
 .skip))
 (.seq (.reg [(0, false), (1, false), (2, false)] r9_3)
 (.seq (.reg [(0, false), (1, false), (2, false), (3, false)] r9_4)
 (.seq (.reg [(0, false), (1, false), (2, false)] r9_5)
 (.seq (.seq (.reg [(0, false), (1, false), (2, false), (3, false)] r9_6)
 (.cond (.t 16) (.seq (.reg [(0, false)] r9_7)
 .ret)
 .skip))
 (.seq (.seq (.reg [(0, false), (1, false)] r9_8)
 (.cond (.t 18) (.seq (.reg [(0, false), (1, false), (2, false), (3, false)] r9_9)
 .ret)
 .skip))
 (.seq (.reg [(0, false), (2, false), (1, false), (2, true), (3, false), (4, false), (5, false)] r9_10)
 .ret))))))))
def f9 : IFunc := { nt := 27, res := [((.t 2), none)], body := b9 }
def ps9 : List Phases := [⟨[([(0, false), (2, false)], 1), ([(2, true)], 3)], [(4, false), (5, false)]⟩]
def ms9 : List (Option (List Nat)) := [none, none, none]
-- chatelaine/chatelainelaw01.Cut
def r16_0 : List IOper := [⟨some 4, .mov (.c (.str (⟨#[]⟩ : ByteArray))), none⟩]
def r16_1 : List IOper := [⟨some 5, .mov (.t 0), none⟩,
  ⟨some 6, .lenS (.t 5), none⟩,
  ⟨some 7, .mov (.t 1), none⟩,
  ⟨some 8, .bin .gtr (.t 6) (.t 7), none⟩]
def r16_2 : List IOper := [⟨some 9, .mov (.t 0), none⟩,
  ⟨some 10, .mov (.t 1), none⟩,
  ⟨some 11, .slcStr (.t 9) none (some (.t 10)), none⟩,
  ⟨some 4, .mov (.t 11), none⟩]
def r16_3 : List IOper := [⟨some 12, .mov (.t 0), none⟩,
  ⟨some 4, .mov (.t 12), none⟩]
def b16 : ICode :=
 (.seq (.reg [(0, false)] r16_0)
 (.seq (.seq (.reg [(0, false), (1, false), (2, false), (3, false)] r16_1)
 (.cond (.t 8) (.seq (.reg [(0, false), (1, false), (2, false), (3, false)] r16_2)
 .ret)
 .skip))
 (.seq (.reg [(0, false), (1, false)] r16_3)
 .ret)))
def f16 : IFunc := { nt := 13, res := [((.t 4), none)], body := b16 }
def ps16 : List Phases := []
def ms16 : List (Option (List Nat)) := [none]
-- (*chatelaine/code.Writer).U
def r30_0 : List IOper := [⟨some 4, .mov (.c .nilp), none⟩]
def r30_1 : List IOper := [⟨some 9, .mov (.t 1), none⟩,
  ⟨some 10, .lenL (.t 9), none⟩,
  ⟨some 11, .mov (.c (.int .i64 0)), none⟩]
def r30_2 : List IOper := [⟨some 12, .bin .lss (.t 11) (.t 10), none⟩]
def r30_3 : List IOper := [⟨some 13, .ixS 1 (.t 9) (.t 11), none⟩,
  ⟨some 14, .load none (.t 13), none⟩,
  ⟨some 6, .mov (.t 14), none⟩]
def r30_4 : List IOper := [⟨some 16, .mov (.t 6), none⟩,
  ⟨some 17, .callF 64 [(.t 16)], none⟩,
  ⟨some 15, .mov (.t 17), none⟩,
  ⟨some 18, .ext (.t 15) 0, none⟩,
  ⟨some 19, .ext (.t 15) 1, none⟩,
  ⟨some 7, .mov (.t 18), none⟩,
  ⟨some 8, .mov (.t 19), none⟩]
def r30_5 : List IOper := [⟨some 20, .mov (.t 0), none⟩,
  ⟨some 21, .mov (.t 0), none⟩,
  ⟨some 22, .nilck (.t 21), none⟩,
  ⟨some 23, .fld 0 (.t 22), none⟩,
  ⟨some 24, .load none (.t 23), none⟩,
  ⟨some 25, .mov (.t 7), none⟩,
  ⟨some 26, .buildS 1 1 [(.int .u8 0)] [(0, (.t 25))], none⟩,
  ⟨some 27, .app 1 1 (.t 24) (.t 26), none⟩,
  ⟨some 28, .nilck (.t 20), none⟩,
  ⟨some 29, .fld 0 (.t 28), none⟩,
  ⟨none, .store 1 (.t 29) (.t 27), none⟩]
def r30_6 : List IOper := [⟨some 30, .mov (.t 0), none⟩,
  ⟨some 31, .mov (.t 6), none⟩,
  ⟨some 32, .mov (.t 8), none⟩,
  ⟨some 33, .callF 65 [(.t 30), (.t 31), (.t 32)], none⟩]
def r30_7 : List IOper := [⟨some 34, .bin .add (.t 11) (.c (.int .i64 1)), none⟩,
  ⟨some 11, .mov (.t 34), none⟩]
def r30_8 : List IOper := [⟨some 35, .mov (.t 0), none⟩,
  ⟨some 4, .mov (.t 35), none⟩]
def b30 : ICode :=
 (.seq (.reg [(0, false)] r30_0)
 (.seq (.seq (.reg [(0, false), (1, false), (2, false)] r30_1)
 (.seq (.block 0 (.loop (.seq (.mask [0, 9, 10, 11]) (.seq (.reg [(0, false)] r30_2)
 (.seq (.cond (.t 12) .skip
 (.exit 0))
 (.seq (.seq (.block 1 (.seq (.reg [(0, false), (1, false), (2, false)] r30_3)
 (.seq (.reg [(0, false), (1, false), (2, false), (3, false), (4, false), (5, false), (6, false)] r30_4)
 (.seq (.reg [(0, false), (1, false), (2, false), (3, false), (4, false), (5, false), (6, false), (7, false), (8, false), (9, false), (10, false)] r30_5)
 (.reg [(0, false), (1, false), (2, false), (3, false)] r30_6))))) (.mask [0, 9, 10, 11]))
 (.reg [(0, false), (1, false)] r30_7))))))) (.mask [0])))
 (.seq (.reg [(0, false), (1, false)] r30_8)
 .ret)))
def f30 : IFunc := { nt := 36, res := [((.t 4), none)], body := b30 }
def ps30 : List Phases := []
def ms30 : List (Option (List Nat)) := [some [0, 9, 10, 11], none, some [0, 9, 10, 11], some [0]]
-- (*chatelaine/code.Writer).Text
def r31_0 : List IOper := [⟨some 2, .mov (.c (.str (⟨#[]⟩ : ByteArray))), none⟩]
def r31_1 : List IOper := [⟨some 3, .mov (.t 0), none⟩,
  ⟨some 4, .nilck (.t 3), none⟩,
  ⟨some 5, .fld 0 (.t 4), none⟩,
  ⟨some 6, .load none (.t 5), none⟩,
  ⟨some 7, .b2s (.t 6), none⟩,
  ⟨some 2, .mov (.t 7), none⟩]
def b31 : ICode :=
 (.seq (.reg [(0, false)] r31_0)
 (.seq (.reg [(0, false), (1, false), (2, false), (3, false), (4, false), (5, false)] r31_1)
 .ret))
def f31 : IFunc := { nt := 8, res := [((.t 2), none)], body := b31 }
def ps31 : List Phases := []
def ms31 : List (Option (List Nat)) := []
-- (chatelaine/ballot.Ballot).Put
def r35_0 : List IOper := [⟨some 2, .box 2 (.t 0), none⟩]
def r35_1 : List IOper := [⟨some 4, .mov (.t 1), none⟩,
  ⟨some 5, .fld 0 (.t 2), none⟩,
  ⟨some 6, .load none (.t 5), none⟩,
  ⟨some 7, .buildS 1 1 [(.int .u64 0)] [(0, (.t 6))], none⟩,
  ⟨some 8, .callF 30 [(.t 4), (.t 7)], none⟩,
  ⟨some 9, .fld 1 (.t 2), none⟩,
  ⟨some 10, .load none (.t 9), none⟩,
  ⟨some 11, .buildS 1 1 [(.int .i64 0)] [(0, (.t 10))], none⟩,
  ⟨some 12, .callF 40 [(.t 8), (.t 11)], none⟩]
def b35 : ICode :=
 (.seq (.reg [(0, false)] r35_0)
 (.reg [(0, false), (1, false), (2, false), (5, false), (6, false), (3, false), (4, false), (6, true), (7, false), (8, false)] r35_1))
def f35 : IFunc := { nt := 13, res := [], body := b35 }
def ps35 : List Phases := [⟨[([(0, false), (1, false), (2, false), (5, false), (6, false), (3, false)], 4), ([(6, true), (7, false)], 8)], []⟩]
def ms35 : List (Option (List Nat)) := []
-- chatelaine/chatelaineref08.Put
def r36_0 : List IOper := [⟨some 1, .box 2 (.t 0), none⟩,
  ⟨some 2, .mov (.c (.str (⟨#[]⟩ : ByteArray))), none⟩]
def r36_1 : List IOper := [⟨some 3, .fld 0 (.t 1), none⟩,
  ⟨some 4, .load none (.t 3), none⟩,
  ⟨some 5, .callF 57 [(.t 4)], none⟩,
  ⟨some 6, .fld 1 (.t 1), none⟩,
  ⟨some 7, .load none (.t 6), none⟩,
  ⟨some 8, .callF 58 [(.t 7)], none⟩,
  ⟨some 9, .bin .add (.t 5) (.t 8), none⟩,
  ⟨some 2, .mov (.t 9), none⟩]
def b36 : ICode :=
 (.seq (.reg [(0, false), (1, false)] r36_0)
 (.seq (.reg [(0, false), (1, false), (3, false), (4, false), (2, false), (4, true), (5, false), (6, false), (7, false)] r36_1)
 .ret))
def f36 : IFunc := { nt := 10, res := [((.t 2), none)], body := b36 }
def ps36 : List Phases := [⟨[([(0, false), (1, false), (3, false), (4, false)], 2), ([(4, true)], 5)], [(6, false), (7, false)]⟩]
def ms36 : List (Option (List Nat)) := []
-- chatelaine/seal.Frame
def r39_0 : List IOper := [⟨some 4, .mov (.c (.str (⟨#[]⟩ : ByteArray))), none⟩]
def r39_1 : List IOper := [⟨some 6, .mov (.t 1), none⟩,
  ⟨some 7, .mov (.t 1), none⟩,
  ⟨some 8, .lenS (.t 7), none⟩,
  ⟨some 9, .mini [(.t 8), (.c (.int .i64 1048576))], none⟩,
  ⟨some 10, .slcStr (.t 6) none (some (.t 9)), none⟩,
  ⟨some 1, .mov (.t 10), none⟩]
def r39_2 : List IOper := [⟨some 11, .mov (.t 0), none⟩,
  ⟨some 12, .maxi [(.t 11), (.c (.int .u8 1))], none⟩,
  ⟨some 13, .buildS 1 1 [(.int .u8 0)] [(0, (.t 12))], none⟩,
  ⟨some 14, .b2s (.t 13), none⟩,
  ⟨some 15, .mov (.t 1), none⟩,
  ⟨some 16, .lenS (.t 15), none⟩,
  ⟨some 17, .conv .u32 (.t 16), none⟩,
  ⟨some 18, .callF 67 [(.t 17), (.c (.int .i64 3))], none⟩,
  ⟨some 19, .bin .add (.t 14) (.t 18), none⟩,
  ⟨some 20, .mov (.t 1), none⟩,
  ⟨some 21, .bin .add (.t 19) (.t 20), none⟩,
  ⟨some 5, .mov (.t 21), none⟩]
def r39_3 : List IOper := [⟨some 22, .mov (.t 5), none⟩,
  ⟨some 23, .mov (.t 5), none⟩,
  ⟨some 24, .buildS 1 1 [(.str (⟨#[]⟩ : ByteArray))] [(0, (.t 23))], none⟩,
  ⟨some 25, .callF 44 [(.t 24)], none⟩,
  ⟨some 26, .callF 67 [(.t 25), (.c (.int .i64 4))], none⟩,
  ⟨some 27, .bin .add (.t 22) (.t 26), none⟩,
  ⟨some 4, .mov (.t 27), none⟩]
def b39 : ICode :=
 (.seq (.reg [(0, false)] r39_0)
 (.seq (.reg [(0, false), (1, false), (2, false), (3, false), (4, false), (5, false)] r39_1)
 (.seq (.reg [(0, false), (1, false), (4, false), (5, false), (6, false), (9, false), (7, false), (2, false), (3, false), (8, false), (10, false), (11, false)] r39_2)
 (.seq (.reg [(0, false), (1, false), (2, false), (3, false), (4, false), (5, false), (6, false)] r39_3)
 .ret))))
def f39 : IFunc := { nt := 28, res := [((.t 4), none)], body := b39 }
def ps39 : List Phases := [⟨[([(0, false), (1, false), (4, false), (5, false), (6, false), (9, false)], 7)], [(2, false), (3, false), (8, false), (10, false), (11, false)]⟩]
def ms39 : List (Option (List Nat)) := []
-- (*chatelaine/code.Writer).N
def r40_0 : List IOper := [⟨some 4, .mov (.c .nilp), none⟩]
def r40_1 : List IOper := [⟨some 7, .mov (.t 1), none⟩,
  ⟨some 8, .lenL (.t 7), none⟩,
  ⟨some 9, .mov (.c (.int .i64 0)), none⟩]
def r40_2 : List IOper := [⟨some 10, .bin .lss (.t 9) (.t 8), none⟩]
def r40_3 : List IOper := [⟨some 11, .ixS 1 (.t 7) (.t 9), none⟩,
  ⟨some 12, .load none (.t 11), none⟩,
  ⟨some 6, .mov (.t 12), none⟩]
def r40_4 : List IOper := [⟨some 13, .mov (.t 0), none⟩,
  ⟨some 14, .mov (.t 6), none⟩,
  ⟨some 15, .maxi [(.t 14), (.c (.int .i64 0))], none⟩,
  ⟨some 16, .conv .u64 (.t 15), none⟩,
  ⟨some 17, .buildS 1 1 [(.int .u64 0)] [(0, (.t 16))], none⟩,
  ⟨some 18, .callF 30 [(.t 13), (.t 17)], none⟩]
def r40_5 : List IOper := [⟨some 19, .bin .add (.t 9) (.c (.int .i64 1)), none⟩,
  ⟨some 9, .mov (.t 19), none⟩]
def r40_6 : List IOper := [⟨some 20, .mov (.t 0), none⟩,
  ⟨some 4, .mov (.t 20), none⟩]
def b40 : ICode :=
 (.seq (.reg [(0, false)] r40_0)
 (.seq (.seq (.reg [(0, false), (1, false), (2, false)] r40_1)
 (.seq (.block 0 (.loop (.seq (.mask [0, 7, 8, 9]) (.seq (.reg [(0, false)] r40_2)
 (.seq (.cond (.t 10) .skip
 (.exit 0))
 (.seq (.seq (.block 1 (.seq (.reg [(0, false), (1, false), (2, false)] r40_3)
 (.reg [(0, false), (1, false), (2, false), (3, false), (4, false), (5, false)] r40_4))) (.mask [0, 7, 8, 9]))
 (.reg [(0, false), (1, false)] r40_5))))))) (.mask [0])))
 (.seq (.reg [(0, false), (1, false)] r40_6)
 .ret)))
def f40 : IFunc := { nt := 21, res := [((.t 4), none)], body := b40 }
def ps40 : List Phases := []
def ms40 : List (Option (List Nat)) := [some [0, 7, 8, 9], none, some [0, 7, 8, 9], some [0]]
-- (*chatelaine/code.Writer).S
def r41_0 : List IOper := [⟨some 4, .mov (.c .nilp), none⟩]
def r41_1 : List IOper := [⟨some 7, .mov (.t 1), none⟩,
  ⟨some 8, .lenL (.t 7), none⟩,
  ⟨some 9, .mov (.c (.int .i64 0)), none⟩]
def r41_2 : List IOper := [⟨some 10, .bin .lss (.t 9) (.t 8), none⟩]
def r41_3 : List IOper := [⟨some 11, .ixS 1 (.t 7) (.t 9), none⟩,
  ⟨some 12, .load none (.t 11), none⟩,
  ⟨some 6, .mov (.t 12), none⟩]
def r41_4 : List IOper := [⟨some 13, .mov (.t 0), none⟩,
  ⟨some 14, .mov (.t 6), none⟩,
  ⟨some 15, .lenS (.t 14), none⟩,
  ⟨some 16, .buildS 1 1 [(.int .i64 0)] [(0, (.t 15))], none⟩,
  ⟨some 17, .callF 40 [(.t 13), (.t 16)], none⟩]
def r41_5 : List IOper := [⟨some 18, .mov (.t 0), none⟩,
  ⟨some 19, .mov (.t 0), none⟩,
  ⟨some 20, .nilck (.t 19), none⟩,
  ⟨some 21, .fld 0 (.t 20), none⟩,
  ⟨some 22, .load none (.t 21), none⟩,
  ⟨some 23, .mov (.t 6), none⟩,
  ⟨some 24, .app 1 1 (.t 22) (.t 23), none⟩,
  ⟨some 25, .nilck (.t 18), none⟩,
  ⟨some 26, .fld 0 (.t 25), none⟩,
  ⟨none, .store 1 (.t 26) (.t 24), none⟩]
def r41_6 : List IOper := [⟨some 27, .bin .add (.t 9) (.c (.int .i64 1)), none⟩,
  ⟨some 9, .mov (.t 27), none⟩]
def r41_7 : List IOper := [⟨some 28, .mov (.t 0), none⟩,
  ⟨some 4, .mov (.t 28), none⟩]
def b41 : ICode :=
 (.seq (.reg [(0, false)] r41_0)
 (.seq (.seq (.reg [(0, false), (1, false), (2, false)] r41_1)
 (.seq (.block 0 (.loop (.seq (.mask [0, 7, 8, 9]) (.seq (.reg [(0, false)] r41_2)
 (.seq (.cond (.t 10) .skip
 (.exit 0))
 (.seq (.seq (.block 1 (.seq (.reg [(0, false), (1, false), (2, false)] r41_3)
 (.seq (.reg [(0, false), (1, false), (2, false), (3, false), (4, false)] r41_4)
 (.reg [(0, false), (1, false), (2, false), (3, false), (4, false), (5, false), (6, false), (7, false), (8, false), (9, false)] r41_5)))) (.mask [0, 7, 8, 9]))
 (.reg [(0, false), (1, false)] r41_6))))))) (.mask [0])))
 (.seq (.reg [(0, false), (1, false)] r41_7)
 .ret)))
def f41 : IFunc := { nt := 29, res := [((.t 4), none)], body := b41 }
def ps41 : List Phases := []
def ms41 : List (Option (List Nat)) := [some [0, 7, 8, 9], none, some [0, 7, 8, 9], some [0]]
-- (*chatelaine/code.Writer).B
def r42_0 : List IOper := [⟨some 4, .mov (.c .nilp), none⟩]
def r42_1 : List IOper := [⟨some 8, .mov (.t 1), none⟩,
  ⟨some 9, .lenL (.t 8), none⟩,
  ⟨some 10, .mov (.c (.int .i64 0)), none⟩]
def r42_2 : List IOper := [⟨some 11, .bin .lss (.t 10) (.t 9), none⟩]
def r42_3 : List IOper := [⟨some 12, .ixS 1 (.t 8) (.t 10), none⟩,
  ⟨some 13, .load none (.t 12), none⟩,
  ⟨some 6, .mov (.t 13), none⟩]
def r42_4 : List IOper := [⟨some 7, .mov (.c (.int .u8 0)), none⟩]
def r42_5 : List IOper := [⟨some 14, .mov (.t 6), none⟩]
def r42_6 : List IOper := [⟨some 7, .mov (.c (.int .u8 1)), none⟩]
def r42_7 : List IOper := [⟨some 15, .mov (.t 0), none⟩,
  ⟨some 16, .mov (.t 0), none⟩,
  ⟨some 17, .nilck (.t 16), none⟩,
  ⟨some 18, .fld 0 (.t 17), none⟩,
  ⟨some 19, .load none (.t 18), none⟩,
  ⟨some 20, .mov (.t 7), none⟩,
  ⟨some 21, .buildS 1 1 [(.int .u8 0)] [(0, (.t 20))], none⟩,
  ⟨some 22, .app 1 1 (.t 19) (.t 21), none⟩,
  ⟨some 23, .nilck (.t 15), none⟩,
  ⟨some 24, .fld 0 (.t 23), none⟩,
  ⟨none, .store 1 (.t 24) (.t 22), none⟩]
def r42_8 : List IOper := [⟨some 25, .bin .add (.t 10) (.c (.int .i64 1)), none⟩,
  ⟨some 10, .mov (.t 25), none⟩]
def r42_9 : List IOper := [⟨some 26, .mov (.t 0), none⟩,
  ⟨some 4, .mov (.t 26), none⟩]
def b42 : ICode :=
 (.seq (.reg [(0, false)] r42_0)
 (.seq (.seq (.reg [(0, false), (1, false), (2, false)] r42_1)
 (.seq (.block 0 (.loop (.seq (.mask [0, 8, 9, 10]) (.seq (.reg [(0, false)] r42_2)
 (.seq (.cond (.t 11) .skip
 (.exit 0))
 (.seq (.seq (.block 1 (.seq (.reg [(0, false), (1, false), (2, false)] r42_3)
 (.seq (.reg [(0, false)] r42_4)
 (.seq (.seq (.reg [(0, false)] r42_5)
 (.seq (.cond (.t 14) (.reg [(0, false)] r42_6)
 .skip) (.mask [0, 7, 8, 9, 10])))
 (.reg [(0, false), (1, false), (2, false), (3, false), (4, false), (5, false), (6, false), (7, false), (8, false), (9, false), (10, false)] r42_7))))) (.mask [0, 8, 9, 10]))
 (.reg [(0, false), (1, false)] r42_8))))))) (.mask [0])))
 (.seq (.reg [(0, false), (1, false)] r42_9)
 .ret)))
def f42 : IFunc := { nt := 27, res := [((.t 4), none)], body := b42 }
def ps42 : List Phases := []
def ms42 : List (Option (List Nat)) := [some [0, 8, 9, 10], none, some [0, 7, 8, 9, 10], some [0, 8, 9, 10], some [0]]
-- chatelaine/seal.Sum
def r44_0 : List IOper := [⟨some 2, .mov (.c (.int .u32 0)), none⟩]
def r44_1 : List IOper := [⟨some 3, .mov (.c (.int .u32 4294967295)), none⟩]
def r44_2 : List IOper := [⟨some 7, .mov (.t 0), none⟩,
  ⟨some 8, .lenL (.t 7), none⟩,
  ⟨some 9, .mov (.c (.int .i64 0)), none⟩]
def r44_3 : List IOper := [⟨some 10, .bin .lss (.t 9) (.t 8), none⟩]
def r44_4 : List IOper := [⟨some 11, .ixS 1 (.t 7) (.t 9), none⟩,
  ⟨some 12, .load none (.t 11), none⟩,
  ⟨some 5, .mov (.t 12), none⟩]
def r44_5 : List IOper := [⟨some 13, .mov (.t 5), none⟩,
  ⟨some 14, .lenS (.t 13), none⟩,
  ⟨some 15, .mov (.c (.int .i64 0)), none⟩]
def r44_6 : List IOper := [⟨some 16, .bin .lss (.t 15) (.t 14), none⟩]
def r44_7 : List IOper := [⟨some 17, .mov (.t 15), none⟩,
  ⟨some 6, .mov (.t 17), none⟩]
def r44_8 : List IOper := [⟨some 18, .mov (.t 3), none⟩,
  ⟨some 19, .mov (.t 5), none⟩,
  ⟨some 20, .mov (.t 6), none⟩,
  ⟨some 21, .ixStr (.t 19) (.t 20), none⟩,
  ⟨some 22, .callF 69 [(.t 18), (.t 21)], none⟩,
  ⟨some 3, .mov (.t 22), none⟩]
def r44_9 : List IOper := [⟨some 23, .bin .add (.t 15) (.c (.int .i64 1)), none⟩,
  ⟨some 15, .mov (.t 23), none⟩]
def r44_10 : List IOper := [⟨some 24, .bin .add (.t 9) (.c (.int .i64 1)), none⟩,
  ⟨some 9, .mov (.t 24), none⟩]
def r44_11 : List IOper := [⟨some 25, .mov (.t 3), none⟩,
  ⟨some 26, .un .xor (.t 25), none⟩,
  ⟨some 2, .mov (.t 26), none⟩]
def b44 : ICode :=
 (.seq (.reg [(0, false)] r44_0)
 (.seq (.reg [(0, false)] r44_1)
 (.seq (.seq (.reg [(0, false), (1, false), (2, false)] r44_2)
 (.seq (.block 0 (.loop (.seq (.mask [3, 7, 8, 9]) (.seq (.reg [(0, false)] r44_3)
 (.seq (.cond (.t 10) .skip
 (.exit 0))
 (.seq (.seq (.block 1 (.seq (.reg [(0, false), (1, false), (2, false)] r44_4)
 (.seq (.reg [(0, false), (1, false), (2, false)] r44_5)
 (.seq (.block 2 (.loop (.seq (.mask [3, 5, 7, 8, 9, 14, 15]) (.seq (.reg [(0, false)] r44_6)
 (.seq (.cond (.t 16) .skip
 (.exit 2))
 (.seq (.seq (.block 3 (.seq (.reg [(0, false), (1, false)] r44_7)
 (.reg [(0, false), (1, false), (2, false), (3, false), (4, false), (5, false)] r44_8))) (.mask [3, 5, 7, 8, 9, 14, 15]))
 (.reg [(0, false), (1, false)] r44_9))))))) (.mask [3, 7, 8, 9]))))) (.mask [3, 7, 8, 9]))
 (.reg [(0, false), (1, false)] r44_10))))))) (.mask [3])))
 (.seq (.reg [(0, false), (1, false), (2, false)] r44_11)
 .ret))))
def f44 : IFunc := { nt := 27, res := [((.t 2), none)], body := b44 }
def ps44 : List Phases := []
def ms44 : List (Option (List Nat)) := [some [3, 7, 8, 9], none, some [3, 5, 7, 8, 9, 14, 15], none, some [3, 5, 7, 8, 9, 14, 15], some [3, 7, 8, 9], some [3, 7, 8, 9], some [3]]
-- chatelaine/chatelainelaw10.awake
def r45_0 : List IOper := [⟨some 0, .mov (.c (.bool false)), none⟩]
def r45_1 : List IOper := [⟨some 2, .build [(.int .u64 0), (.int .i64 0)] [(0, 1, (.c (.int .u64 1))), (1, 1, (.c (.int .i64 1)))], none⟩,
  ⟨some 3, .build [(.int .i64 0), (.int .i64 0), (.int .i64 0), (.int .i64 0), (.int .u64 0), (.int .i64 0), (.int .i64 0), (.int .i64 0), (.bool false), (.str (⟨#[]⟩ : ByteArray)), .nils] [(0, 1, (.c (.int .i64 1))), (1, 1, (.c (.int .i64 1))), (2, 1, (.c (.int .i64 2))), (4, 2, (.t 2))], none⟩,
  ⟨some 4, .callF 50 [(.t 3)], none⟩,
  ⟨some 1, .mov (.t 4), none⟩]
def r45_2 : List IOper := [⟨some 5, .mov (.t 1), none⟩,
  ⟨some 6, .lenS (.t 5), none⟩,
  ⟨some 7, .bin .eql (.t 6) (.c (.int .i64 18)), none⟩,
  ⟨some 8, .mov (.t 7), none⟩,
  ⟨some 9, .mov (.t 1), some (8, true)⟩,
  ⟨some 10, .slcStr (.t 9) none (some (.c (.int .i64 14))), some (8, true)⟩,
  ⟨some 11, .bin .eql (.t 10) (.c (.str (⟨#[1, 0, 0, 10, 1, 2, 0, 1, 1, 0, 0, 0, 0, 0]⟩ : ByteArray))), some (8, true)⟩,
  ⟨some 12, .pick (.t 8) (.t 11) (.c (.bool false)), none⟩,
  ⟨some 0, .mov (.t 12), none⟩]
def b45 : ICode :=
 (.seq (.reg [(0, false)] r45_0)
 (.seq (.reg [(0, false), (1, false), (2, false), (3, false)] r45_1)
 (.seq (.reg [(0, false), (1, false), (2, false), (3, false), (4, false), (5, false), (6, false), (7, false), (8, false)] r45_2)
 .ret)))
def f45 : IFunc := { nt := 13, res := [((.t 0), none)], body := b45 }
def ps45 : List Phases := []
def ms45 : List (Option (List Nat)) := []
-- chatelaine/chatelainelaw10.Few
def r46_0 : List IOper := [⟨some 1, .box 11 (.t 0), none⟩,
  ⟨some 2, .alloc [(.int .i64 0), (.int .i64 0), (.int .i64 0), (.int .i64 0), (.int .u64 0), (.int .i64 0), (.int .i64 0), (.int .i64 0), (.bool false), (.str (⟨#[]⟩ : ByteArray)), .nils], none⟩]
def r46_1 : List IOper := [⟨some 5, .fld 9 (.t 1), none⟩,
  ⟨some 6, .load none (.t 5), none⟩,
  ⟨some 7, .callF 16 [(.t 6), (.c (.int .i64 300))], none⟩,
  ⟨some 8, .fld 9 (.t 1), none⟩,
  ⟨none, .store 1 (.t 8) (.t 7), none⟩]
def r46_2 : List IOper := [⟨some 9, .fld 10 (.t 1), none⟩,
  ⟨some 10, .load none (.t 9), none⟩,
  ⟨some 11, .lenL (.t 10), none⟩,
  ⟨some 12, .bin .gtr (.t 11) (.c (.int .i64 70)), none⟩]
def r46_3 : List IOper := [⟨some 13, .fld 10 (.t 1), none⟩,
  ⟨some 14, .load none (.t 13), none⟩,
  ⟨some 15, .slcS 4 (.t 14) none (some (.c (.int .i64 70))), none⟩,
  ⟨some 16, .fld 10 (.t 1), none⟩,
  ⟨none, .store 1 (.t 16) (.t 15), none⟩]
def r46_4 : List IOper := [⟨some 17, .buildS 4 0 [(.int .i64 0), (.int .u64 0), (.int .i64 0), (.str (⟨#[]⟩ : ByteArray))] [], none⟩,
  ⟨some 18, .fld 10 (.t 1), none⟩,
  ⟨some 19, .load none (.t 18), none⟩,
  ⟨some 20, .app 4 40 (.t 17) (.t 19), none⟩,
  ⟨some 3, .mov (.t 20), none⟩]
def r46_5 : List IOper := [⟨some 21, .mov (.t 3), none⟩,
  ⟨some 22, .lenL (.t 21), none⟩,
  ⟨some 23, .mov (.c (.int .i64 0)), none⟩]
def r46_6 : List IOper := [⟨some 24, .bin .lss (.t 23) (.t 22), none⟩]
def r46_7 : List IOper := [⟨some 25, .mov (.t 23), none⟩,
  ⟨some 4, .mov (.t 25), none⟩]
def r46_8 : List IOper := [⟨some 26, .mov (.t 3), none⟩,
  ⟨some 27, .mov (.t 4), none⟩,
  ⟨some 28, .mov (.t 3), none⟩,
  ⟨some 29, .mov (.t 4), none⟩,
  ⟨some 30, .ixS 4 (.t 28) (.t 29), none⟩,
  ⟨some 31, .fld 3 (.t 30), none⟩,
  ⟨some 32, .load none (.t 31), none⟩,
  ⟨some 33, .callF 16 [(.t 32), (.c (.int .i64 402))], none⟩,
  ⟨some 34, .ixS 4 (.t 26) (.t 27), none⟩,
  ⟨some 35, .fld 3 (.t 34), none⟩,
  ⟨none, .store 1 (.t 35) (.t 33), none⟩]
def r46_9 : List IOper := [⟨some 36, .bin .add (.t 23) (.c (.int .i64 1)), none⟩,
  ⟨some 23, .mov (.t 36), none⟩]
def r46_10 : List IOper := [⟨some 37, .mov (.t 3), none⟩,
  ⟨some 38, .fld 10 (.t 1), none⟩,
  ⟨none, .store 1 (.t 38) (.t 37), none⟩]
def r46_11 : List IOper := [⟨some 39, .load (some 11) (.t 1), none⟩,
  ⟨none, .store 11 (.t 2) (.t 39), none⟩]
def b46 : ICode :=
 (.seq (.reg [(0, false), (1, false)] r46_0)
 (.seq (.reg [(0, false), (1, false), (2, false), (3, false), (4, false)] r46_1)
 (.seq (.seq (.reg [(0, false), (1, false), (2, false), (3, false)] r46_2)
 (.seq (.cond (.t 12) (.reg [(0, false), (1, false), (2, false), (3, false), (4, false)] r46_3)
 .skip) (.mask [1, 2])))
 (.seq (.reg [(0, false), (1, false), (2, false), (3, false), (4, false)] r46_4)
 (.seq (.seq (.reg [(0, false), (1, false), (2, false)] r46_5)
 (.seq (.block 0 (.loop (.seq (.mask [1, 2, 3, 22, 23]) (.seq (.reg [(0, false)] r46_6)
 (.seq (.cond (.t 24) .skip
 (.exit 0))
 (.seq (.seq (.block 1 (.seq (.reg [(0, false), (1, false)] r46_7)
 (.reg [(0, false), (1, false), (2, false), (3, false), (4, false), (5, false), (6, false), (7, false), (8, false), (9, false), (10, false)] r46_8))) (.mask [1, 2, 3, 22, 23]))
 (.reg [(0, false), (1, false)] r46_9))))))) (.mask [1, 2, 3])))
 (.seq (.reg [(0, false), (1, false), (2, false)] r46_10)
 (.seq (.reg [(0, false), (1, false)] r46_11)
 .ret)))))))
def f46 : IFunc := { nt := 40, res := [((.t 2), some (some 11))], body := b46 }
def ps46 : List Phases := []
def ms46 : List (Option (List Nat)) := [some [1, 2], some [1, 2, 3, 22, 23], none, some [1, 2, 3, 22, 23], some [1, 2, 3]]
-- chatelaine/chatelainelaw10.Own
def r47_0 : List IOper := [⟨some 1, .box 11 (.t 0), none⟩,
  ⟨some 2, .alloc [(.int .i64 0), (.int .i64 0), (.int .i64 0), (.int .i64 0), (.int .u64 0), (.int .i64 0), (.int .i64 0), (.int .i64 0), (.bool false), (.str (⟨#[]⟩ : ByteArray)), .nils], none⟩]
def r47_1 : List IOper := [⟨some 6, .fld 0 (.t 1), none⟩,
  ⟨some 7, .load none (.t 6), none⟩,
  ⟨some 8, .fld 1 (.t 1), none⟩,
  ⟨some 9, .load none (.t 8), none⟩,
  ⟨some 10, .fld 2 (.t 1), none⟩,
  ⟨some 11, .load none (.t 10), none⟩,
  ⟨some 12, .fld 3 (.t 1), none⟩,
  ⟨some 13, .load none (.t 12), none⟩,
  ⟨some 14, .fld 4 (.t 1), none⟩,
  ⟨some 15, .load (some 2) (.t 14), none⟩,
  ⟨some 16, .fld 6 (.t 1), none⟩,
  ⟨some 17, .load none (.t 16), none⟩,
  ⟨some 18, .fld 7 (.t 1), none⟩,
  ⟨some 19, .load none (.t 18), none⟩,
  ⟨some 20, .fld 8 (.t 1), none⟩,
  ⟨some 21, .load none (.t 20), none⟩,
  ⟨some 22, .fld 9 (.t 1), none⟩,
  ⟨some 23, .load none (.t 22), none⟩,
  ⟨some 24, .build [(.int .i64 0), (.int .i64 0), (.int .i64 0), (.int .i64 0), (.int .u64 0), (.int .i64 0), (.int .i64 0), (.int .i64 0), (.bool false), (.str (⟨#[]⟩ : ByteArray)), .nils] [(0, 1, (.t 7)), (1, 1, (.t 9)), (2, 1, (.t 11)), (3, 1, (.t 13)), (4, 2, (.t 15)), (6, 1, (.t 17)), (7, 1, (.t 19)), (8, 1, (.t 21)), (9, 1, (.t 23))], none⟩,
  ⟨some 3, .alloc [(.int .i64 0), (.int .i64 0), (.int .i64 0), (.int .i64 0), (.int .u64 0), (.int .i64 0), (.int .i64 0), (.int .i64 0), (.bool false), (.str (⟨#[]⟩ : ByteArray)), .nils], none⟩,
  ⟨none, .store 11 (.t 3) (.t 24), none⟩]
def r47_2 : List IOper := [⟨some 25, .fld 10 (.t 1), none⟩,
  ⟨some 26, .load none (.t 25), none⟩,
  ⟨some 27, .lenL (.t 26), none⟩,
  ⟨some 28, .mov (.c (.int .i64 0)), none⟩]
def r47_3 : List IOper := [⟨some 29, .bin .lss (.t 28) (.t 27), none⟩]
def r47_4 : List IOper := [⟨some 30, .ixS 4 (.t 26) (.t 28), none⟩,
  ⟨some 31, .load (some 4) (.t 30), none⟩,
  ⟨some 5, .alloc [(.int .i64 0), (.int .u64 0), (.int .i64 0), (.str (⟨#[]⟩ : ByteArray))], none⟩,
  ⟨none, .store 4 (.t 5) (.t 31), none⟩]
def r47_5 : List IOper := [⟨some 32, .fld 10 (.t 3), none⟩,
  ⟨some 33, .load none (.t 32), none⟩,
  ⟨some 34, .fld 0 (.t 5), none⟩,
  ⟨some 35, .load none (.t 34), none⟩,
  ⟨some 36, .fld 1 (.t 5), none⟩,
  ⟨some 37, .load (some 2) (.t 36), none⟩,
  ⟨some 38, .fld 3 (.t 5), none⟩,
  ⟨some 39, .load none (.t 38), none⟩,
  ⟨some 40, .build [(.int .i64 0), (.int .u64 0), (.int .i64 0), (.str (⟨#[]⟩ : ByteArray))] [(0, 1, (.t 35)), (1, 2, (.t 37)), (3, 1, (.t 39))], none⟩,
  ⟨some 41, .buildS 4 1 [(.int .i64 0), (.int .u64 0), (.int .i64 0), (.str (⟨#[]⟩ : ByteArray))] [(0, (.t 40))], none⟩,
  ⟨some 42, .app 4 40 (.t 33) (.t 41), none⟩,
  ⟨some 43, .fld 10 (.t 3), none⟩,
  ⟨none, .store 1 (.t 43) (.t 42), none⟩]
def r47_6 : List IOper := [⟨some 44, .bin .add (.t 28) (.c (.int .i64 1)), none⟩,
  ⟨some 28, .mov (.t 44), none⟩]
def r47_7 : List IOper := [⟨some 45, .load (some 11) (.t 3), none⟩,
  ⟨none, .store 11 (.t 2) (.t 45), none⟩]
def b47 : ICode :=
 (.seq (.reg [(0, false), (1, false)] r47_0)
 (.seq (.reg [(0, false), (1, false), (2, false), (3, false), (4, false), (5, false), (6, false), (7, false), (8, false), (9, false), (10, false), (11, false), (12, false), (13, false), (14, false), (15, false), (16, false), (17, false), (18, false), (19, false), (20, false)] r47_1)
 (.seq (.seq (.reg [(0, false), (1, false), (2, false), (3, false)] r47_2)
 (.seq (.block 0 (.loop (.seq (.mask [2, 3, 26, 27, 28]) (.seq (.reg [(0, false)] r47_3)
 (.seq (.cond (.t 29) .skip
 (.exit 0))
 (.seq (.seq (.block 1 (.seq (.reg [(0, false), (1, false), (2, false), (3, false)] r47_4)
 (.reg [(0, false), (1, false), (2, false), (3, false), (4, false), (5, false), (6, false), (7, false), (8, false), (9, false), (10, false), (11, false), (12, false)] r47_5))) (.mask [2, 3, 26, 27, 28]))
 (.reg [(0, false), (1, false)] r47_6))))))) (.mask [2, 3])))
 (.seq (.reg [(0, false), (1, false)] r47_7)
 .ret))))
def f47 : IFunc := { nt := 46, res := [((.t 2), some (some 11))], body := b47 }
def ps47 : List Phases := []
def ms47 : List (Option (List Nat)) := [some [2, 3, 26, 27, 28], none, some [2, 3, 26, 27, 28], some [2, 3]]
-- chatelaine/chatelaineref10.Check
def r48_0 : List IOper := [⟨some 1, .box 11 (.t 0), none⟩,
  ⟨some 2, .mov (.c (.int .i64 0)), none⟩]
def r48_1 : List IOper := [⟨some 10, .fld 0 (.t 1), none⟩,
  ⟨some 11, .load none (.t 10), none⟩,
  ⟨some 12, .callF 70 [(.t 11), (.c (.int .i64 1)), (.c (.int .i64 13))], none⟩,
  ⟨some 13, .un .not (.t 12), none⟩]
def r48_2 : List IOper := [⟨some 2, .mov (.c (.int .i64 1)), none⟩]
def r48_3 : List IOper := [⟨some 14, .fld 1 (.t 1), none⟩,
  ⟨some 15, .load none (.t 14), none⟩,
  ⟨some 16, .callF 70 [(.t 15), (.c (.int .i64 0)), (.c (.int .i64 11))], none⟩,
  ⟨some 17, .un .not (.t 16), none⟩,
  ⟨some 18, .mov (.t 17), none⟩,
  ⟨some 19, .fld 2 (.t 1), some (18, false)⟩,
  ⟨some 20, .load none (.t 19), some (18, false)⟩,
  ⟨some 21, .callF 70 [(.t 20), (.c (.int .i64 0)), (.c (.int .i64 11))], some (18, false)⟩,
  ⟨some 22, .un .not (.t 21), some (18, false)⟩,
  ⟨some 23, .pick (.t 18) (.c (.bool true)) (.t 22), none⟩,
  ⟨some 24, .mov (.t 23), none⟩,
  ⟨some 25, .fld 3 (.t 1), some (24, false)⟩,
  ⟨some 26, .load none (.t 25), some (24, false)⟩,
  ⟨some 27, .callF 70 [(.t 26), (.c (.int .i64 0)), (.c (.int .i64 3))], some (24, false)⟩,
  ⟨some 28, .un .not (.t 27), some (24, false)⟩,
  ⟨some 29, .pick (.t 24) (.c (.bool true)) (.t 28), none⟩,
  ⟨some 30, .mov (.t 29), none⟩,
  ⟨some 31, .fld 4 (.t 1), some (30, false)⟩,
  ⟨some 32, .load (some 2) (.t 31), some (30, false)⟩,
  ⟨some 33, .callF 71 [(.t 32)], some (30, false)⟩,
  ⟨some 34, .un .not (.t 33), some (30, false)⟩,
  ⟨some 35, .pick (.t 30) (.c (.bool true)) (.t 34), none⟩,
  ⟨some 36, .mov (.t 35), none⟩,
  ⟨some 37, .fld 6 (.t 1), some (36, false)⟩,
  ⟨some 38, .load none (.t 37), some (36, false)⟩,
  ⟨some 39, .callF 70 [(.t 38), (.c (.int .i64 0)), (.c (.int .i64 1099511627776))], some (36, false)⟩,
  ⟨some 40, .un .not (.t 39), some (36, false)⟩,
  ⟨some 41, .pick (.t 36) (.c (.bool true)) (.t 40), none⟩,
  ⟨some 42, .mov (.t 41), none⟩,
  ⟨some 43, .fld 7 (.t 1), some (42, false)⟩,
  ⟨some 44, .load none (.t 43), some (42, false)⟩,
  ⟨some 45, .callF 70 [(.t 44), (.c (.int .i64 0)), (.c (.int .i64 1099511627776))], some (42, false)⟩,
  ⟨some 46, .un .not (.t 45), some (42, false)⟩,
  ⟨some 47, .pick (.t 42) (.c (.bool true)) (.t 46), none⟩]
def r48_4 : List IOper := [⟨some 2, .mov (.c (.int .i64 2)), none⟩]
def r48_5 : List IOper := [⟨some 48, .fld 10 (.t 1), none⟩,
  ⟨some 49, .load none (.t 48), none⟩,
  ⟨some 50, .lenL (.t 49), none⟩,
  ⟨some 51, .mov (.c (.int .i64 0)), none⟩]
def r48_6 : List IOper := [⟨some 52, .bin .lss (.t 51) (.t 50), none⟩]
def r48_7 : List IOper := [⟨some 53, .ixS 4 (.t 49) (.t 51), none⟩,
  ⟨some 54, .load (some 4) (.t 53), none⟩,
  ⟨some 4, .alloc [(.int .i64 0), (.int .u64 0), (.int .i64 0), (.str (⟨#[]⟩ : ByteArray))], none⟩,
  ⟨none, .store 4 (.t 4) (.t 54), none⟩]
def r48_8 : List IOper := [⟨some 55, .fld 1 (.t 4), none⟩,
  ⟨some 56, .load (some 2) (.t 55), none⟩,
  ⟨some 57, .callF 71 [(.t 56)], none⟩,
  ⟨some 58, .un .not (.t 57), none⟩,
  ⟨some 59, .mov (.t 58), none⟩,
  ⟨some 60, .fld 0 (.t 4), some (59, false)⟩,
  ⟨some 61, .load none (.t 60), some (59, false)⟩,
  ⟨some 62, .callF 70 [(.t 61), (.c (.int .i64 0)), (.c (.int .i64 1099511627776))], some (59, false)⟩,
  ⟨some 63, .un .not (.t 62), some (59, false)⟩,
  ⟨some 64, .pick (.t 59) (.c (.bool true)) (.t 63), none⟩]
def r48_9 : List IOper := [⟨some 2, .mov (.c (.int .i64 2)), none⟩]
def r48_10 : List IOper := [⟨some 65, .bin .add (.t 51) (.c (.int .i64 1)), none⟩,
  ⟨some 51, .mov (.t 65), none⟩]
def r48_11 : List IOper := [⟨some 66, .fld 9 (.t 1), none⟩,
  ⟨some 67, .load none (.t 66), none⟩,
  ⟨some 68, .lenS (.t 67), none⟩,
  ⟨some 69, .bin .gtr (.t 68) (.c (.int .i64 131072)), none⟩,
  ⟨some 70, .mov (.t 69), none⟩,
  ⟨some 71, .fld 10 (.t 1), some (70, false)⟩,
  ⟨some 72, .load none (.t 71), some (70, false)⟩,
  ⟨some 73, .lenL (.t 72), some (70, false)⟩,
  ⟨some 74, .bin .gtr (.t 73) (.c (.int .i64 64)), some (70, false)⟩,
  ⟨some 75, .pick (.t 70) (.c (.bool true)) (.t 74), none⟩]
def r48_12 : List IOper := [⟨some 2, .mov (.c (.int .i64 6)), none⟩]
def r48_13 : List IOper := [⟨some 76, .fld 10 (.t 1), none⟩,
  ⟨some 77, .load none (.t 76), none⟩,
  ⟨some 78, .lenL (.t 77), none⟩,
  ⟨some 79, .mov (.c (.int .i64 0)), none⟩]
def r48_14 : List IOper := [⟨some 80, .bin .lss (.t 79) (.t 78), none⟩]
def r48_15 : List IOper := [⟨some 81, .ixS 4 (.t 77) (.t 79), none⟩,
  ⟨some 82, .load (some 4) (.t 81), none⟩,
  ⟨some 6, .alloc [(.int .i64 0), (.int .u64 0), (.int .i64 0), (.str (⟨#[]⟩ : ByteArray))], none⟩,
  ⟨none, .store 4 (.t 6) (.t 82), none⟩]
def r48_16 : List IOper := [⟨some 83, .fld 3 (.t 6), none⟩,
  ⟨some 84, .load none (.t 83), none⟩,
  ⟨some 85, .lenS (.t 84), none⟩,
  ⟨some 86, .bin .gtr (.t 85) (.c (.int .i64 400)), none⟩]
def r48_17 : List IOper := [⟨some 2, .mov (.c (.int .i64 6)), none⟩]
def r48_18 : List IOper := [⟨some 87, .bin .add (.t 79) (.c (.int .i64 1)), none⟩,
  ⟨some 79, .mov (.t 87), none⟩]
def r48_19 : List IOper := [⟨some 7, .mov (.c (.int .i64 (-1))), none⟩]
def r48_20 : List IOper := [⟨some 88, .fld 10 (.t 1), none⟩,
  ⟨some 89, .load none (.t 88), none⟩,
  ⟨some 90, .lenL (.t 89), none⟩,
  ⟨some 91, .mov (.c (.int .i64 0)), none⟩]
def r48_21 : List IOper := [⟨some 92, .bin .lss (.t 91) (.t 90), none⟩]
def r48_22 : List IOper := [⟨some 93, .ixS 4 (.t 89) (.t 91), none⟩,
  ⟨some 94, .load (some 4) (.t 93), none⟩,
  ⟨some 9, .alloc [(.int .i64 0), (.int .u64 0), (.int .i64 0), (.str (⟨#[]⟩ : ByteArray))], none⟩,
  ⟨none, .store 4 (.t 9) (.t 94), none⟩]
def r48_23 : List IOper := [⟨some 95, .fld 0 (.t 9), none⟩,
  ⟨some 96, .load none (.t 95), none⟩,
  ⟨some 97, .mov (.t 7), none⟩,
  ⟨some 98, .bin .leq (.t 96) (.t 97), none⟩]
def r48_24 : List IOper := [⟨some 2, .mov (.c (.int .i64 4)), none⟩]
def r48_25 : List IOper := [⟨some 99, .fld 0 (.t 9), none⟩,
  ⟨some 100, .load none (.t 99), none⟩,
  ⟨some 7, .mov (.t 100), none⟩]
def r48_26 : List IOper := [⟨some 101, .bin .add (.t 91) (.c (.int .i64 1)), none⟩,
  ⟨some 91, .mov (.t 101), none⟩]
def r48_27 : List IOper := [⟨some 2, .mov (.c (.int .i64 0)), none⟩]
def b48 : ICode :=
 (.seq (.reg [(0, false), (1, false)] r48_0)
 (.seq (.seq (.reg [(0, false), (1, false), (2, false), (3, false)] r48_1)
 (.cond (.t 13) (.seq (.reg [(0, false)] r48_2)
 .ret)
 .skip))
 (.seq (.seq (.reg [(0, false), (1, false), (2, false), (3, false), (4, false), (5, false), (6, false), (7, false), (8, false), (9, false), (10, false), (11, false), (12, false), (13, false), (14, false), (15, false), (16, false), (17, false), (18, false), (19, false), (20, false), (21, false), (22, false), (23, false), (24, false), (25, false), (26, false), (27, false), (28, false), (29, false), (30, false), (31, false), (32, false), (33, false)] r48_3)
 (.cond (.t 47) (.seq (.reg [(0, false)] r48_4)
 .ret)
 .skip))
 (.seq (.seq (.reg [(0, false), (1, false), (2, false), (3, false)] r48_5)
 (.seq (.block 0 (.loop (.seq (.mask [1, 49, 50, 51]) (.seq (.reg [(0, false)] r48_6)
 (.seq (.cond (.t 52) .skip
 (.exit 0))
 (.seq (.seq (.block 1 (.seq (.reg [(0, false), (1, false), (2, false), (3, false)] r48_7)
 (.seq (.reg [(0, false), (1, false), (2, false), (3, false), (4, false), (5, false), (6, false), (7, false), (8, false), (9, false)] r48_8)
 (.cond (.t 64) (.seq (.reg [(0, false)] r48_9)
 .ret)
 .skip)))) (.mask [1, 49, 50, 51]))
 (.reg [(0, false), (1, false)] r48_10))))))) (.mask [1])))
 (.seq (.seq (.reg [(0, false), (1, false), (2, false), (3, false), (4, false), (5, false), (6, false), (7, false), (8, false), (9, false)] r48_11)
 (.cond (.t 75) (.seq (.reg [(0, false)] r48_12)
 .ret)
 .skip))
 (.seq (.seq (.reg [(0, false), (1, false), (2, false), (3, false)] r48_13)
 (.seq (.block 2 (.loop (.seq (.mask [1, 77, 78, 79]) (.seq (.reg [(0, false)] r48_14)
 (.seq (.cond (.t 80) .skip
 (.exit 2))
 (.seq (.seq (.block 3 (.seq (.reg [(0, false), (1, false), (2, false), (3, false)] r48_15)
 (.seq (.reg [(0, false), (1, false), (2, false), (3, false)] r48_16)
 (.cond (.t 86) (.seq (.reg [(0, false)] r48_17)
 .ret)
 .skip)))) (.mask [1, 77, 78, 79]))
 (.reg [(0, false), (1, false)] r48_18))))))) (.mask [1])))
 (.seq (.reg [(0, false)] r48_19)
 (.seq (.seq (.reg [(0, false), (1, false), (2, false), (3, false)] r48_20)
 (.seq (.block 4 (.loop (.seq (.mask [7, 89, 90, 91]) (.seq (.reg [(0, false)] r48_21)
 (.seq (.cond (.t 92) .skip
 (.exit 4))
 (.seq (.seq (.block 5 (.seq (.reg [(0, false), (1, false), (2, false), (3, false)] r48_22)
 (.seq (.seq (.reg [(0, false), (1, false), (2, false), (3, false)] r48_23)
 (.cond (.t 98) (.seq (.reg [(0, false)] r48_24)
 .ret)
 .skip))
 (.reg [(0, false), (1, false), (2, false)] r48_25)))) (.mask [7, 89, 90, 91]))
 (.reg [(0, false), (1, false)] r48_26))))))) (.mask [])))
 (.seq (.reg [(0, false)] r48_27)
 .ret)))))))))
def f48 : IFunc := { nt := 102, res := [((.t 2), none)], body := b48 }
def ps48 : List Phases := []
def ms48 : List (Option (List Nat)) := [none, none, some [1, 49, 50, 51], none, none, some [1, 49, 50, 51], some [1], none, some [1, 77, 78, 79], none, none, some [1, 77, 78, 79], some [1], some [7, 89, 90, 91], none, none, some [7, 89, 90, 91], some []]
-- (chatelaine/msg.Msg).Check
def r49_0 : List IOper := [⟨some 1, .box 11 (.t 0), none⟩,
  ⟨some 2, .mov (.c (.int .i64 0)), none⟩]
def r49_1 : List IOper := [⟨some 4, .fld 0 (.t 1), none⟩,
  ⟨some 5, .load none (.t 4), none⟩,
  ⟨some 6, .bin .lss (.t 5) (.c (.int .i64 1)), none⟩,
  ⟨some 7, .mov (.t 6), none⟩,
  ⟨some 8, .fld 0 (.t 1), some (7, false)⟩,
  ⟨some 9, .load none (.t 8), some (7, false)⟩,
  ⟨some 10, .bin .gtr (.t 9) (.c (.int .i64 13)), some (7, false)⟩,
  ⟨some 11, .pick (.t 7) (.c (.bool true)) (.t 10), none⟩,
  ⟨some 3, .mov (.t 11), none⟩]
def r49_2 : List IOper := [⟨some 2, .mov (.c (.int .i64 1)), none⟩]
def r49_3 : List IOper := [⟨some 13, .load (some 11) (.t 1), none⟩,
  ⟨some 14, .callF 72 [(.t 13)], none⟩,
  ⟨some 15, .un .not (.t 14), none⟩,
  ⟨some 12, .mov (.t 15), none⟩]
def r49_4 : List IOper := [⟨some 2, .mov (.c (.int .i64 2)), none⟩]
def r49_5 : List IOper := [⟨some 17, .load (some 11) (.t 1), none⟩,
  ⟨some 18, .callF 73 [(.t 17)], none⟩,
  ⟨some 16, .mov (.t 18), none⟩]
def r49_6 : List IOper := [⟨some 2, .mov (.c (.int .i64 6)), none⟩]
def r49_7 : List IOper := [⟨some 20, .load (some 11) (.t 1), none⟩,
  ⟨some 21, .callF 74 [(.t 20)], none⟩,
  ⟨some 22, .un .not (.t 21), none⟩,
  ⟨some 19, .mov (.t 22), none⟩]
def r49_8 : List IOper := [⟨some 2, .mov (.c (.int .i64 4)), none⟩]
def r49_9 : List IOper := [⟨some 2, .mov (.c (.int .i64 0)), none⟩]
def b49 : ICode :=
 (.seq (.reg [(0, false), (1, false)] r49_0)
 (.seq (.seq (.block 0 (.seq (.reg [(0, false), (1, false), (2, false), (3, false), (4, false), (5, false), (6, false), (7, false), (8, false)] r49_1)
 (.cond (.t 3) (.seq (.reg [(0, false)] r49_2)
 .ret)
 (.seq (.reg [(0, false), (1, false), (2, false), (3, false)] r49_3)
 (.cond (.t 12) (.seq (.reg [(0, false)] r49_4)
 .ret)
 (.seq (.reg [(0, false), (1, false), (2, false)] r49_5)
 (.cond (.t 16) (.seq (.reg [(0, false)] r49_6)
 .ret)
 (.seq (.reg [(0, false), (1, false), (2, false), (3, false)] r49_7)
 (.cond (.t 19) (.seq (.reg [(0, false)] r49_8)
 .ret)
 .skip))))))))) (.mask []))
 (.seq (.reg [(0, false)] r49_9)
 .ret)))
def f49 : IFunc := { nt := 23, res := [((.t 2), none)], body := b49 }
def ps49 : List Phases := []
def ms49 : List (Option (List Nat)) := [none, none, none, none, some []]
-- (chatelaine/msg.Msg).Bytes
def r50_0 : List IOper := [⟨some 1, .box 11 (.t 0), none⟩,
  ⟨some 2, .mov (.c (.str (⟨#[]⟩ : ByteArray))), none⟩]
def r50_1 : List IOper := [⟨some 6, .load (some 11) (.t 1), none⟩,
  ⟨some 7, .callF 49 [(.t 6)], none⟩,
  ⟨some 8, .bin .neq (.t 7) (.c (.int .i64 0)), none⟩]
def r50_2 : List IOper := [⟨some 2, .mov (.c (.str (⟨#[]⟩ : ByteArray))), none⟩]
def r50_3 : List IOper := [⟨some 9, .build [.nils] [], none⟩,
  ⟨some 10, .box 1 (.t 9), none⟩,
  ⟨some 3, .mov (.t 10), none⟩]
def r50_4 : List IOper := [⟨some 11, .mov (.t 3), none⟩,
  ⟨some 12, .fld 1 (.t 1), none⟩,
  ⟨some 13, .load none (.t 12), none⟩,
  ⟨some 14, .fld 2 (.t 1), none⟩,
  ⟨some 15, .load none (.t 14), none⟩,
  ⟨some 16, .fld 3 (.t 1), none⟩,
  ⟨some 17, .load none (.t 16), none⟩,
  ⟨some 18, .buildS 1 3 [(.int .i64 0)] [(0, (.t 13)), (1, (.t 15)), (2, (.t 17))], none⟩,
  ⟨some 19, .callF 40 [(.t 11), (.t 18)], none⟩]
def r50_5 : List IOper := [⟨some 20, .fld 4 (.t 1), none⟩,
  ⟨some 21, .load (some 2) (.t 20), none⟩,
  ⟨some 22, .mov (.t 3), none⟩,
  ⟨some 23, .callF 35 [(.t 21), (.t 22)], none⟩]
def r50_6 : List IOper := [⟨some 24, .mov (.t 3), none⟩,
  ⟨some 25, .fld 6 (.t 1), none⟩,
  ⟨some 26, .load none (.t 25), none⟩,
  ⟨some 27, .fld 7 (.t 1), none⟩,
  ⟨some 28, .load none (.t 27), none⟩,
  ⟨some 29, .buildS 1 2 [(.int .i64 0)] [(0, (.t 26)), (1, (.t 28))], none⟩,
  ⟨some 30, .callF 40 [(.t 24), (.t 29)], none⟩,
  ⟨some 31, .fld 8 (.t 1), none⟩,
  ⟨some 32, .load none (.t 31), none⟩,
  ⟨some 33, .buildS 1 1 [(.bool false)] [(0, (.t 32))], none⟩,
  ⟨some 34, .callF 42 [(.t 30), (.t 33)], none⟩,
  ⟨some 35, .fld 9 (.t 1), none⟩,
  ⟨some 36, .load none (.t 35), none⟩,
  ⟨some 37, .buildS 1 1 [(.str (⟨#[]⟩ : ByteArray))] [(0, (.t 36))], none⟩,
  ⟨some 38, .callF 41 [(.t 34), (.t 37)], none⟩,
  ⟨some 39, .fld 10 (.t 1), none⟩,
  ⟨some 40, .load none (.t 39), none⟩,
  ⟨some 41, .lenL (.t 40), none⟩,
  ⟨some 42, .buildS 1 1 [(.int .i64 0)] [(0, (.t 41))], none⟩,
  ⟨some 43, .callF 40 [(.t 38), (.t 42)], none⟩]
def r50_7 : List IOper := [⟨some 44, .fld 10 (.t 1), none⟩,
  ⟨some 45, .load none (.t 44), none⟩,
  ⟨some 46, .lenL (.t 45), none⟩,
  ⟨some 47, .mov (.c (.int .i64 0)), none⟩]
def r50_8 : List IOper := [⟨some 48, .bin .lss (.t 47) (.t 46), none⟩]
def r50_9 : List IOper := [⟨some 49, .ixS 4 (.t 45) (.t 47), none⟩,
  ⟨some 50, .load (some 4) (.t 49), none⟩,
  ⟨some 5, .alloc [(.int .i64 0), (.int .u64 0), (.int .i64 0), (.str (⟨#[]⟩ : ByteArray))], none⟩,
  ⟨none, .store 4 (.t 5) (.t 50), none⟩]
def r50_10 : List IOper := [⟨some 51, .mov (.t 3), none⟩,
  ⟨some 52, .fld 0 (.t 5), none⟩,
  ⟨some 53, .load none (.t 52), none⟩,
  ⟨some 54, .buildS 1 1 [(.int .i64 0)] [(0, (.t 53))], none⟩,
  ⟨some 55, .callF 40 [(.t 51), (.t 54)], none⟩]
def r50_11 : List IOper := [⟨some 56, .fld 1 (.t 5), none⟩,
  ⟨some 57, .load (some 2) (.t 56), none⟩,
  ⟨some 58, .mov (.t 3), none⟩,
  ⟨some 59, .callF 35 [(.t 57), (.t 58)], none⟩]
def r50_12 : List IOper := [⟨some 60, .mov (.t 3), none⟩,
  ⟨some 61, .fld 3 (.t 5), none⟩,
  ⟨some 62, .load none (.t 61), none⟩,
  ⟨some 63, .buildS 1 1 [(.str (⟨#[]⟩ : ByteArray))] [(0, (.t 62))], none⟩,
  ⟨some 64, .callF 41 [(.t 60), (.t 63)], none⟩]
def r50_13 : List IOper := [⟨some 65, .bin .add (.t 47) (.c (.int .i64 1)), none⟩,
  ⟨some 47, .mov (.t 65), none⟩]
def r50_14 : List IOper := [⟨some 66, .fld 0 (.t 1), none⟩,
  ⟨some 67, .load none (.t 66), none⟩,
  ⟨some 68, .conv .u8 (.t 67), none⟩,
  ⟨some 69, .mov (.t 3), none⟩,
  ⟨some 70, .callF 31 [(.t 69)], none⟩,
  ⟨some 71, .callF 39 [(.t 68), (.t 70)], none⟩,
  ⟨some 2, .mov (.t 71), none⟩]
def b50 : ICode :=
 (.seq (.reg [(0, false), (1, false)] r50_0)
 (.seq (.seq (.reg [(0, false), (1, false), (2, false)] r50_1)
 (.cond (.t 8) (.seq (.reg [(0, false)] r50_2)
 .ret)
 .skip))
 (.seq (.reg [(0, false), (1, false), (2, false)] r50_3)
 (.seq (.reg [(0, false), (1, false), (2, false), (3, false), (4, false), (5, false), (6, false), (7, false), (8, false)] r50_4)
 (.seq (.reg [(0, false), (1, false), (2, false), (3, false)] r50_5)
 (.seq (.reg [(0, false), (1, false), (2, false), (3, false), (4, false), (7, false), (8, false), (11, false), (12, false), (15, false), (16, false), (17, false), (5, false), (6, false), (8, true), (12, true), (16, true), (9, false), (10, false), (12, true), (16, true), (13, false), (14, false), (16, true), (18, false), (19, false)] r50_6)
 (.seq (.seq (.reg [(0, false), (1, false), (2, false), (3, false)] r50_7)
 (.seq (.block 0 (.loop (.seq (.mask [1, 3, 45, 46, 47]) (.seq (.reg [(0, false)] r50_8)
 (.seq (.cond (.t 48) .skip
 (.exit 0))
 (.seq (.seq (.block 1 (.seq (.reg [(0, false), (1, false), (2, false), (3, false)] r50_9)
 (.seq (.reg [(0, false), (1, false), (2, false), (3, false), (4, false)] r50_10)
 (.seq (.reg [(0, false), (1, false), (2, false), (3, false)] r50_11)
 (.reg [(0, false), (1, false), (2, false), (3, false), (4, false)] r50_12))))) (.mask [1, 3, 45, 46, 47]))
 (.reg [(0, false), (1, false)] r50_13))))))) (.mask [1, 3])))
 (.seq (.reg [(0, false), (1, false), (2, false), (3, false), (4, false), (1, true), (5, false), (6, false)] r50_14)
 .ret))))))))
def f50 : IFunc := { nt := 72, res := [((.t 2), none)], body := b50 }
def ps50 : List Phases := [⟨[([(0, false), (1, false), (2, false), (3, false), (4, false), (7, false), (8, false), (11, false), (12, false), (15, false), (16, false), (17, false), (5, false)], 6), ([(8, true), (12, true), (16, true), (9, false)], 10), ([(12, true), (16, true), (13, false)], 14), ([(16, true), (18, false)], 19)], []⟩, ⟨[([(0, false), (1, false), (2, false), (3, false)], 4), ([(1, true)], 5)], [(6, false)]⟩]
def ms50 : List (Option (List Nat)) := [none, some [1, 3, 45, 46, 47], none, some [1, 3, 45, 46, 47], some [1, 3]]
-- chatelaine/chatelaineref10.Bytes
def r51_0 : List IOper := [⟨some 1, .box 11 (.t 0), none⟩,
  ⟨some 2, .mov (.c (.str (⟨#[]⟩ : ByteArray))), none⟩]
def r51_1 : List IOper := [⟨some 3, .fld 0 (.t 1), none⟩,
  ⟨some 4, .load none (.t 3), none⟩,
  ⟨some 5, .conv .u8 (.t 4), none⟩,
  ⟨some 6, .load (some 11) (.t 1), none⟩,
  ⟨some 7, .callF 76 [(.t 6)], none⟩,
  ⟨some 8, .callF 75 [(.t 5), (.t 7)], none⟩,
  ⟨some 2, .mov (.t 8), none⟩]
def b51 : ICode :=
 (.seq (.reg [(0, false), (1, false)] r51_0)
 (.seq (.reg [(0, false), (1, false), (2, false), (3, false), (4, false), (1, true), (5, false), (6, false)] r51_1)
 .ret))
def f51 : IFunc := { nt := 9, res := [((.t 2), none)], body := b51 }
def ps51 : List Phases := [⟨[([(0, false), (1, false), (2, false), (3, false)], 4), ([(1, true)], 5)], [(6, false)]⟩]
def ms51 : List (Option (List Nat)) := []
-- chatelaine/chatelaineref01.U
def r57_0 : List IOper := [⟨some 2, .mov (.c (.str (⟨#[]⟩ : ByteArray))), none⟩]
def r57_1 : List IOper := [⟨some 3, .mov (.t 0), none⟩,
  ⟨some 4, .bin .lss (.t 3) (.c (.int .u64 252)), none⟩]
def r57_2 : List IOper := [⟨some 5, .mov (.t 0), none⟩,
  ⟨some 6, .callF 80 [(.t 5), (.c (.int .i64 1))], none⟩,
  ⟨some 2, .mov (.t 6), none⟩]
def r57_3 : List IOper := [⟨some 7, .mov (.t 0), none⟩,
  ⟨some 8, .bin .lss (.t 7) (.c (.int .u64 65536)), none⟩]
def r57_4 : List IOper := [⟨some 9, .mov (.t 0), none⟩,
  ⟨some 10, .callF 80 [(.t 9), (.c (.int .i64 2))], none⟩,
  ⟨some 11, .bin .add (.c (.str (⟨#[252]⟩ : ByteArray))) (.t 10), none⟩,
  ⟨some 2, .mov (.t 11), none⟩]
def r57_5 : List IOper := [⟨some 12, .mov (.t 0), none⟩,
  ⟨some 13, .bin .lss (.t 12) (.c (.int .u64 4294967296)), none⟩]
def r57_6 : List IOper := [⟨some 14, .mov (.t 0), none⟩,
  ⟨some 15, .callF 80 [(.t 14), (.c (.int .i64 4))], none⟩,
  ⟨some 16, .bin .add (.c (.str (⟨#[253]⟩ : ByteArray))) (.t 15), none⟩,
  ⟨some 2, .mov (.t 16), none⟩]
def r57_7 : List IOper := [⟨some 17, .mov (.t 0), none⟩,
  ⟨some 18, .callF 80 [(.t 17), (.c (.int .i64 8))], none⟩,
  ⟨some 19, .bin .add (.c (.str (⟨#[254]⟩ : ByteArray))) (.t 18), none⟩,
  ⟨some 2, .mov (.t 19), none⟩]
def b57 : ICode :=
 (.seq (.reg [(0, false)] r57_0)
 (.seq (.seq (.reg [(0, false), (1, false)] r57_1)
 (.cond (.t 4) (.seq (.reg [(0, false), (1, false), (2, false)] r57_2)
 .ret)
 .skip))
 (.seq (.seq (.reg [(0, false), (1, false)] r57_3)
 (.cond (.t 8) (.seq (.reg [(0, false), (1, false), (2, false), (3, false)] r57_4)
 .ret)
 .skip))
 (.seq (.seq (.reg [(0, false), (1, false)] r57_5)
 (.cond (.t 13) (.seq (.reg [(0, false), (1, false), (2, false), (3, false)] r57_6)
 .ret)
 .skip))
 (.seq (.reg [(0, false), (1, false), (2, false), (3, false)] r57_7)
 .ret)))))
def f57 : IFunc := { nt := 20, res := [((.t 2), none)], body := b57 }
def ps57 : List Phases := []
def ms57 : List (Option (List Nat)) := [none, none, none]
-- chatelaine/chatelaineref01.N
def r58_0 : List IOper := [⟨some 2, .mov (.c (.str (⟨#[]⟩ : ByteArray))), none⟩]
def r58_1 : List IOper := [⟨some 3, .mov (.t 0), none⟩,
  ⟨some 4, .bin .lss (.t 3) (.c (.int .i64 0)), none⟩]
def r58_2 : List IOper := [⟨some 5, .callF 57 [(.c (.int .u64 0))], none⟩,
  ⟨some 2, .mov (.t 5), none⟩]
def r58_3 : List IOper := [⟨some 6, .mov (.t 0), none⟩,
  ⟨some 7, .conv .u64 (.t 6), none⟩,
  ⟨some 8, .callF 57 [(.t 7)], none⟩,
  ⟨some 2, .mov (.t 8), none⟩]
def b58 : ICode :=
 (.seq (.reg [(0, false)] r58_0)
 (.seq (.seq (.reg [(0, false), (1, false)] r58_1)
 (.cond (.t 4) (.seq (.reg [(0, false), (1, false)] r58_2)
 .ret)
 .skip))
 (.seq (.reg [(0, false), (1, false), (2, false), (3, false)] r58_3)
 .ret)))
def f58 : IFunc := { nt := 9, res := [((.t 2), none)], body := b58 }
def ps58 : List Phases := []
def ms58 : List (Option (List Nat)) := [none]
-- chatelaine/chatelaineref01.B
def r59_0 : List IOper := [⟨some 2, .mov (.c (.str (⟨#[]⟩ : ByteArray))), none⟩]
def r59_1 : List IOper := [⟨some 3, .mov (.t 0), none⟩]
def r59_2 : List IOper := [⟨some 2, .mov (.c (.str (⟨#[1]⟩ : ByteArray))), none⟩]
def r59_3 : List IOper := [⟨some 2, .mov (.c (.str (⟨#[0]⟩ : ByteArray))), none⟩]
def b59 : ICode :=
 (.seq (.reg [(0, false)] r59_0)
 (.seq (.seq (.reg [(0, false)] r59_1)
 (.cond (.t 3) (.seq (.reg [(0, false)] r59_2)
 .ret)
 .skip))
 (.seq (.reg [(0, false)] r59_3)
 .ret)))
def f59 : IFunc := { nt := 4, res := [((.t 2), none)], body := b59 }
def ps59 : List Phases := []
def ms59 : List (Option (List Nat)) := [none]
-- chatelaine/chatelaineref01.S
def r60_0 : List IOper := [⟨some 2, .mov (.c (.str (⟨#[]⟩ : ByteArray))), none⟩]
def r60_1 : List IOper := [⟨some 3, .mov (.t 0), none⟩,
  ⟨some 4, .lenS (.t 3), none⟩,
  ⟨some 5, .callF 58 [(.t 4)], none⟩,
  ⟨some 6, .mov (.t 0), none⟩,
  ⟨some 7, .bin .add (.t 5) (.t 6), none⟩,
  ⟨some 2, .mov (.t 7), none⟩]
def b60 : ICode :=
 (.seq (.reg [(0, false)] r60_0)
 (.seq (.reg [(0, false), (1, false), (2, false), (3, false), (4, false), (5, false)] r60_1)
 .ret))
def f60 : IFunc := { nt := 8, res := [((.t 2), none)], body := b60 }
def ps60 : List Phases := []
def ms60 : List (Option (List Nat)) := []
-- chatelaine/code.head
def r64_0 : List IOper := [⟨some 2, .mov (.c (.int .u8 0)), none⟩,
  ⟨some 3, .mov (.c (.int .i64 0)), none⟩]
def r64_1 : List IOper := [⟨some 5, .mov (.t 0), none⟩,
  ⟨some 6, .bin .lss (.t 5) (.c (.int .u64 252)), none⟩,
  ⟨some 4, .mov (.t 6), none⟩]
def r64_2 : List IOper := [⟨some 7, .mov (.t 0), none⟩,
  ⟨some 8, .conv .u8 (.t 7), none⟩,
  ⟨some 2, .mov (.t 8), none⟩,
  ⟨some 3, .mov (.c (.int .i64 0)), none⟩]
def r64_3 : List IOper := [⟨some 10, .mov (.t 0), none⟩,
  ⟨some 11, .bin .lss (.t 10) (.c (.int .u64 65536)), none⟩,
  ⟨some 9, .mov (.t 11), none⟩]
def r64_4 : List IOper := [⟨some 2, .mov (.c (.int .u8 252)), none⟩,
  ⟨some 3, .mov (.c (.int .i64 2)), none⟩]
def r64_5 : List IOper := [⟨some 13, .mov (.t 0), none⟩,
  ⟨some 14, .bin .lss (.t 13) (.c (.int .u64 4294967296)), none⟩,
  ⟨some 12, .mov (.t 14), none⟩]
def r64_6 : List IOper := [⟨some 2, .mov (.c (.int .u8 253)), none⟩,
  ⟨some 3, .mov (.c (.int .i64 4)), none⟩]
def r64_7 : List IOper := [⟨some 2, .mov (.c (.int .u8 254)), none⟩,
  ⟨some 3, .mov (.c (.int .i64 8)), none⟩]
def b64 : ICode :=
 (.seq (.reg [(0, false), (1, false)] r64_0)
 (.seq (.seq (.block 0 (.seq (.reg [(0, false), (1, false), (2, false)] r64_1)
 (.cond (.t 4) (.seq (.reg [(0, false), (1, false), (2, false), (3, false)] r64_2)
 .ret)
 (.seq (.reg [(0, false), (1, false), (2, false)] r64_3)
 (.cond (.t 9) (.seq (.reg [(0, false), (1, false)] r64_4)
 .ret)
 (.seq (.reg [(0, false), (1, false), (2, false)] r64_5)
 (.cond (.t 12) (.seq (.reg [(0, false), (1, false)] r64_6)
 .ret)
 .skip))))))) (.mask []))
 (.seq (.reg [(0, false), (1, false)] r64_7)
 .ret)))
def f64 : IFunc := { nt := 15, res := [((.t 2), none), ((.t 3), none)], body := b64 }
def ps64 : List Phases := []
def ms64 : List (Option (List Nat)) := [none, none, none, some []]
-- (*chatelaine/code.Writer).wide
def r65_0 : List IOper := [⟨some 7, .mov (.t 2), none⟩,
  ⟨some 8, .bin .sub (.t 7) (.c (.int .i64 1)), none⟩,
  ⟨some 6, .mov (.t 8), none⟩]
def r65_1 : List IOper := [⟨some 9, .mov (.t 6), none⟩,
  ⟨some 10, .bin .geq (.t 9) (.c (.int .i64 0)), none⟩]
def r65_2 : List IOper := [⟨some 13, .mov (.t 0), none⟩,
  ⟨some 14, .mov (.t 0), none⟩,
  ⟨some 15, .nilck (.t 14), none⟩,
  ⟨some 16, .fld 0 (.t 15), none⟩,
  ⟨some 17, .load none (.t 16), none⟩,
  ⟨some 18, .mov (.t 1), none⟩,
  ⟨some 19, .mov (.t 6), none⟩,
  ⟨some 20, .bin .mul (.c (.int .i64 8)) (.t 19), none⟩,
  ⟨some 21, .bin .shr (.t 18) (.t 20), none⟩,
  ⟨some 22, .conv .u8 (.t 21), none⟩,
  ⟨some 23, .buildS 1 1 [(.int .u8 0)] [(0, (.t 22))], none⟩,
  ⟨some 24, .app 1 1 (.t 17) (.t 23), none⟩,
  ⟨some 25, .nilck (.t 13), none⟩,
  ⟨some 26, .fld 0 (.t 25), none⟩,
  ⟨none, .store 1 (.t 26) (.t 24), none⟩]
def r65_3 : List IOper := [⟨some 11, .mov (.t 6), none⟩,
  ⟨some 12, .bin .sub (.t 11) (.c (.int .i64 1)), none⟩,
  ⟨some 6, .mov (.t 12), none⟩]
def b65 : ICode :=
 (.seq (.reg [(0, false), (1, false), (2, false)] r65_0)
 (.seq (.block 0 (.loop (.seq (.mask [0, 1, 6]) (.seq (.seq (.reg [(0, false), (1, false)] r65_1)
 (.cond (.t 10) .skip
 (.exit 0)))
 (.seq (.seq (.block 1 (.reg [(0, false), (1, false), (2, false), (3, false), (4, false), (5, false), (6, false), (7, false), (8, false), (9, false), (10, false), (11, false), (12, false), (13, false), (14, false)] r65_2)) (.mask [0, 1, 6]))
 (.reg [(0, false), (1, false), (2, false)] r65_3)))))) (.mask [])))
def f65 : IFunc := { nt := 27, res := [], body := b65 }
def ps65 : List Phases := [⟨[([(0, false), (1, false), (2, false), (3, false), (4, false), (5, false), (6, false), (7, false), (8, false), (9, false), (10, false)], 11), ([(12, false), (13, false)], 14)], []⟩]
def ms65 : List (Option (List Nat)) := [some [0, 1, 6], none, some [0, 1, 6], some []]
-- chatelaine/seal.digits
def r67_0 : List IOper := [⟨some 4, .mov (.c (.str (⟨#[]⟩ : ByteArray))), none⟩]
def r67_1 : List IOper := [⟨some 7, .mov (.t 1), none⟩,
  ⟨some 8, .mkS 1 1 [(.int .u8 0)] (.t 7) (.t 7), none⟩,
  ⟨some 5, .mov (.t 8), none⟩]
def r67_2 : List IOper := [⟨some 9, .mov (.t 5), none⟩,
  ⟨some 10, .lenL (.t 9), none⟩,
  ⟨some 11, .mov (.c (.int .i64 0)), none⟩]
def r67_3 : List IOper := [⟨some 12, .bin .lss (.t 11) (.t 10), none⟩]
def r67_4 : List IOper := [⟨some 13, .mov (.t 11), none⟩,
  ⟨some 6, .mov (.t 13), none⟩]
def r67_5 : List IOper := [⟨some 14, .mov (.t 5), none⟩,
  ⟨some 15, .mov (.t 1), none⟩,
  ⟨some 16, .bin .sub (.t 15) (.c (.int .i64 1)), none⟩,
  ⟨some 17, .mov (.t 6), none⟩,
  ⟨some 18, .bin .sub (.t 16) (.t 17), none⟩,
  ⟨some 19, .mov (.t 0), none⟩,
  ⟨some 20, .mov (.t 6), none⟩,
  ⟨some 21, .bin .mul (.c (.int .i64 8)) (.t 20), none⟩,
  ⟨some 22, .bin .shr (.t 19) (.t 21), none⟩,
  ⟨some 23, .conv .u8 (.t 22), none⟩,
  ⟨some 24, .ixS 1 (.t 14) (.t 18), none⟩,
  ⟨none, .store 1 (.t 24) (.t 23), none⟩]
def r67_6 : List IOper := [⟨some 25, .bin .add (.t 11) (.c (.int .i64 1)), none⟩,
  ⟨some 11, .mov (.t 25), none⟩]
def r67_7 : List IOper := [⟨some 26, .mov (.t 5), none⟩,
  ⟨some 27, .b2s (.t 26), none⟩,
  ⟨some 4, .mov (.t 27), none⟩]
def b67 : ICode :=
 (.seq (.reg [(0, false)] r67_0)
 (.seq (.reg [(0, false), (1, false), (2, false)] r67_1)
 (.seq (.seq (.reg [(0, false), (1, false), (2, false)] r67_2)
 (.seq (.block 0 (.loop (.seq (.mask [0, 1, 5, 10, 11]) (.seq (.reg [(0, false)] r67_3)
 (.seq (.cond (.t 12) .skip
 (.exit 0))
 (.seq (.seq (.block 1 (.seq (.reg [(0, false), (1, false)] r67_4)
 (.reg [(0, false), (1, false), (2, false), (3, false), (4, false), (5, false), (6, false), (7, false), (8, false), (9, false), (10, false), (11, false)] r67_5))) (.mask [0, 1, 5, 10, 11]))
 (.reg [(0, false), (1, false)] r67_6))))))) (.mask [5])))
 (.seq (.reg [(0, false), (1, false), (2, false)] r67_7)
 .ret))))
def f67 : IFunc := { nt := 28, res := [((.t 4), none)], body := b67 }
def ps67 : List Phases := []
def ms67 : List (Option (List Nat)) := [some [0, 1, 5, 10, 11], none, some [0, 1, 5, 10, 11], some [5]]
-- chatelaine/seal.more
def r69_0 : List IOper := [⟨some 4, .mov (.c (.int .u32 0)), none⟩]
def r69_1 : List IOper := [⟨some 6, .mov (.t 0), none⟩,
  ⟨some 7, .mov (.t 1), none⟩,
  ⟨some 8, .conv .u32 (.t 7), none⟩,
  ⟨some 9, .bin .xor (.t 6) (.t 8), none⟩,
  ⟨some 0, .mov (.t 9), none⟩]
def r69_2 : List IOper := [⟨some 10, .mov (.c (.int .i64 0)), none⟩]
def r69_3 : List IOper := [⟨some 11, .bin .lss (.t 10) (.c (.int .i64 8)), none⟩]
def r69_4 : List IOper := [⟨some 12, .mov (.t 0), none⟩,
  ⟨some 13, .bin .and (.t 12) (.c (.int .u32 1)), none⟩,
  ⟨some 5, .mov (.t 13), none⟩]
def r69_5 : List IOper := [⟨some 14, .mov (.t 0), none⟩,
  ⟨some 15, .bin .shr (.t 14) (.c (.int .u64 1)), none⟩,
  ⟨some 0, .mov (.t 15), none⟩]
def r69_6 : List IOper := [⟨some 16, .mov (.t 5), none⟩,
  ⟨some 17, .bin .eql (.t 16) (.c (.int .u32 1)), none⟩]
def r69_7 : List IOper := [⟨some 18, .mov (.t 0), none⟩,
  ⟨some 19, .bin .xor (.t 18) (.c (.int .u32 3988292384)), none⟩,
  ⟨some 0, .mov (.t 19), none⟩]
def r69_8 : List IOper := [⟨some 20, .bin .add (.t 10) (.c (.int .i64 1)), none⟩,
  ⟨some 10, .mov (.t 20), none⟩]
def r69_9 : List IOper := [⟨some 21, .mov (.t 0), none⟩,
  ⟨some 4, .mov (.t 21), none⟩]
def b69 : ICode :=
 (.seq (.reg [(0, false)] r69_0)
 (.seq (.reg [(0, false), (1, false), (2, false), (3, false), (4, false)] r69_1)
 (.seq (.seq (.reg [(0, false)] r69_2)
 (.seq (.block 0 (.loop (.seq (.mask [0, 10]) (.seq (.reg [(0, false)] r69_3)
 (.seq (.cond (.t 11) .skip
 (.exit 0))
 (.seq (.seq (.block 1 (.seq (.reg [(0, false), (1, false), (2, false)] r69_4)
 (.seq (.reg [(0, false), (1, false), (2, false)] r69_5)
 (.seq (.reg [(0, false), (1, false)] r69_6)
 (.seq (.cond (.t 17) (.reg [(0, false), (1, false), (2, false)] r69_7)
 .skip) (.mask [0, 10])))))) (.mask [0, 10]))
 (.reg [(0, false), (1, false)] r69_8))))))) (.mask [0])))
 (.seq (.reg [(0, false), (1, false)] r69_9)
 .ret))))
def f69 : IFunc := { nt := 22, res := [((.t 4), none)], body := b69 }
def ps69 : List Phases := []
def ms69 : List (Option (List Nat)) := [some [0, 10], none, some [0, 10], some [0, 10], some [0]]
-- chatelaine/chatelaineref10.among
def r70_0 : List IOper := [⟨some 6, .mov (.c (.bool false)), none⟩]
def r70_1 : List IOper := [⟨some 7, .mov (.t 0), none⟩,
  ⟨some 8, .mov (.t 1), none⟩,
  ⟨some 9, .bin .geq (.t 7) (.t 8), none⟩,
  ⟨some 10, .mov (.t 9), none⟩,
  ⟨some 11, .mov (.t 0), some (10, true)⟩,
  ⟨some 12, .mov (.t 2), some (10, true)⟩,
  ⟨some 13, .bin .leq (.t 11) (.t 12), some (10, true)⟩,
  ⟨some 14, .pick (.t 10) (.t 13) (.c (.bool false)), none⟩,
  ⟨some 6, .mov (.t 14), none⟩]
def b70 : ICode :=
 (.seq (.reg [(0, false)] r70_0)
 (.seq (.reg [(0, false), (1, false), (2, false), (3, false), (4, false), (5, false), (6, false), (7, false), (8, false)] r70_1)
 .ret))
def f70 : IFunc := { nt := 15, res := [((.t 6), none)], body := b70 }
def ps70 : List Phases := []
def ms70 : List (Option (List Nat)) := []
-- chatelaine/chatelaineref10.sound
def r71_0 : List IOper := [⟨some 1, .box 2 (.t 0), none⟩,
  ⟨some 2, .mov (.c (.bool false)), none⟩]
def r71_1 : List IOper := [⟨some 3, .fld 1 (.t 1), none⟩,
  ⟨some 4, .load none (.t 3), none⟩,
  ⟨some 5, .callF 70 [(.t 4), (.c (.int .i64 0)), (.c (.int .i64 11))], none⟩,
  ⟨some 6, .mov (.t 5), none⟩,
  ⟨some 7, .fld 1 (.t 1), some (6, true)⟩,
  ⟨some 8, .load none (.t 7), some (6, true)⟩,
  ⟨some 9, .bin .eql (.t 8) (.c (.int .i64 0)), some (6, true)⟩,
  ⟨some 10, .mov (.t 9), some (6, true)⟩,
  ⟨some 11, .fld 0 (.t 1), some (10, false)⟩,
  ⟨some 12, .load none (.t 11), some (10, false)⟩,
  ⟨some 13, .bin .gtr (.t 12) (.c (.int .u64 0)), some (10, false)⟩,
  ⟨some 14, .pick (.t 10) (.c (.bool true)) (.t 13), some (6, true)⟩,
  ⟨some 15, .pick (.t 6) (.t 14) (.c (.bool false)), none⟩,
  ⟨some 2, .mov (.t 15), none⟩]
def b71 : ICode :=
 (.seq (.reg [(0, false), (1, false)] r71_0)
 (.seq (.reg [(0, false), (1, false), (2, false), (3, false), (4, false), (5, false), (6, false), (7, false), (8, false), (9, false), (10, false), (11, false), (12, false), (13, false)] r71_1)
 .ret))
def f71 : IFunc := { nt := 16, res := [((.t 2), none)], body := b71 }
def ps71 : List Phases := []
def ms71 : List (Option (List Nat)) := []
-- (chatelaine/msg.Msg).ranged
def r72_0 : List IOper := [⟨some 1, .box 11 (.t 0), none⟩,
  ⟨some 2, .mov (.c (.bool false)), none⟩]
def r72_1 : List IOper := [⟨some 5, .fld 1 (.t 1), none⟩,
  ⟨some 6, .load none (.t 5), none⟩,
  ⟨some 7, .callF 82 [(.t 6), (.c (.int .i64 11))], none⟩,
  ⟨some 8, .un .not (.t 7), none⟩,
  ⟨some 9, .mov (.t 8), none⟩,
  ⟨some 10, .fld 2 (.t 1), some (9, false)⟩,
  ⟨some 11, .load none (.t 10), some (9, false)⟩,
  ⟨some 12, .callF 82 [(.t 11), (.c (.int .i64 11))], some (9, false)⟩,
  ⟨some 13, .un .not (.t 12), some (9, false)⟩,
  ⟨some 14, .pick (.t 9) (.c (.bool true)) (.t 13), none⟩,
  ⟨some 15, .mov (.t 14), none⟩,
  ⟨some 16, .fld 3 (.t 1), some (15, false)⟩,
  ⟨some 17, .load none (.t 16), some (15, false)⟩,
  ⟨some 18, .callF 82 [(.t 17), (.c (.int .i64 3))], some (15, false)⟩,
  ⟨some 19, .un .not (.t 18), some (15, false)⟩,
  ⟨some 20, .pick (.t 15) (.c (.bool true)) (.t 19), none⟩,
  ⟨some 21, .mov (.t 20), none⟩,
  ⟨some 22, .fld 4 (.t 1), some (21, false)⟩,
  ⟨some 23, .load (some 2) (.t 22), some (21, false)⟩,
  ⟨some 24, .callF 83 [(.t 23)], some (21, false)⟩,
  ⟨some 25, .un .not (.t 24), some (21, false)⟩,
  ⟨some 26, .pick (.t 21) (.c (.bool true)) (.t 25), none⟩]
def r72_2 : List IOper := [⟨some 2, .mov (.c (.bool false)), none⟩]
def r72_3 : List IOper := [⟨some 27, .fld 10 (.t 1), none⟩,
  ⟨some 28, .load none (.t 27), none⟩,
  ⟨some 29, .lenL (.t 28), none⟩,
  ⟨some 30, .mov (.c (.int .i64 0)), none⟩]
def r72_4 : List IOper := [⟨some 31, .bin .lss (.t 30) (.t 29), none⟩]
def r72_5 : List IOper := [⟨some 32, .ixS 4 (.t 28) (.t 30), none⟩,
  ⟨some 33, .load (some 4) (.t 32), none⟩,
  ⟨some 4, .alloc [(.int .i64 0), (.int .u64 0), (.int .i64 0), (.str (⟨#[]⟩ : ByteArray))], none⟩,
  ⟨none, .store 4 (.t 4) (.t 33), none⟩]
def r72_6 : List IOper := [⟨some 34, .fld 1 (.t 4), none⟩,
  ⟨some 35, .load (some 2) (.t 34), none⟩,
  ⟨some 36, .callF 83 [(.t 35)], none⟩,
  ⟨some 37, .un .not (.t 36), none⟩,
  ⟨some 38, .mov (.t 37), none⟩,
  ⟨some 39, .fld 0 (.t 4), some (38, false)⟩,
  ⟨some 40, .load none (.t 39), some (38, false)⟩,
  ⟨some 41, .callF 82 [(.t 40), (.c (.int .i64 1099511627776))], some (38, false)⟩,
  ⟨some 42, .un .not (.t 41), some (38, false)⟩,
  ⟨some 43, .pick (.t 38) (.c (.bool true)) (.t 42), none⟩]
def r72_7 : List IOper := [⟨some 2, .mov (.c (.bool false)), none⟩]
def r72_8 : List IOper := [⟨some 44, .bin .add (.t 30) (.c (.int .i64 1)), none⟩,
  ⟨some 30, .mov (.t 44), none⟩]
def r72_9 : List IOper := [⟨some 45, .fld 6 (.t 1), none⟩,
  ⟨some 46, .load none (.t 45), none⟩,
  ⟨some 47, .callF 82 [(.t 46), (.c (.int .i64 1099511627776))], none⟩,
  ⟨some 48, .mov (.t 47), none⟩,
  ⟨some 49, .fld 7 (.t 1), some (48, true)⟩,
  ⟨some 50, .load none (.t 49), some (48, true)⟩,
  ⟨some 51, .callF 82 [(.t 50), (.c (.int .i64 1099511627776))], some (48, true)⟩,
  ⟨some 52, .pick (.t 48) (.t 51) (.c (.bool false)), none⟩,
  ⟨some 2, .mov (.t 52), none⟩]
def b72 : ICode :=
 (.seq (.reg [(0, false), (1, false)] r72_0)
 (.seq (.seq (.reg [(0, false), (1, false), (2, false), (3, false), (4, false), (5, false), (6, false), (7, false), (8, false), (9, false), (10, false), (11, false), (12, false), (13, false), (14, false), (15, false), (16, false), (17, false), (18, false), (19, false), (20, false), (21, false)] r72_1)
 (.cond (.t 26) (.seq (.reg [(0, false)] r72_2)
 .ret)
 .skip))
 (.seq (.seq (.reg [(0, false), (1, false), (2, false), (3, false)] r72_3)
 (.seq (.block 0 (.loop (.seq (.mask [1, 28, 29, 30]) (.seq (.reg [(0, false)] r72_4)
 (.seq (.cond (.t 31) .skip
 (.exit 0))
 (.seq (.seq (.block 1 (.seq (.reg [(0, false), (1, false), (2, false), (3, false)] r72_5)
 (.seq (.reg [(0, false), (1, false), (2, false), (3, false), (4, false), (5, false), (6, false), (7, false), (8, false), (9, false)] r72_6)
 (.cond (.t 43) (.seq (.reg [(0, false)] r72_7)
 .ret)
 .skip)))) (.mask [1, 28, 29, 30]))
 (.reg [(0, false), (1, false)] r72_8))))))) (.mask [1])))
 (.seq (.reg [(0, false), (1, false), (2, false), (3, false), (4, false), (5, false), (6, false), (7, false), (8, false)] r72_9)
 .ret))))
def f72 : IFunc := { nt := 53, res := [((.t 2), none)], body := b72 }
def ps72 : List Phases := []
def ms72 : List (Option (List Nat)) := [none, some [1, 28, 29, 30], none, none, some [1, 28, 29, 30], some [1]]
-- (chatelaine/msg.Msg).great
def r73_0 : List IOper := [⟨some 1, .box 11 (.t 0), none⟩,
  ⟨some 2, .mov (.c (.bool false)), none⟩]
def r73_1 : List IOper := [⟨some 3, .mov (.c (.func 84 [] [])), none⟩]
def r73_2 : List IOper := [⟨some 4, .fld 9 (.t 1), none⟩,
  ⟨some 5, .load none (.t 4), none⟩,
  ⟨some 6, .lenS (.t 5), none⟩,
  ⟨some 7, .bin .gtr (.t 6) (.c (.int .i64 131072)), none⟩,
  ⟨some 8, .mov (.t 7), none⟩,
  ⟨some 9, .fld 10 (.t 1), some (8, false)⟩,
  ⟨some 10, .load none (.t 9), some (8, false)⟩,
  ⟨some 11, .lenL (.t 10), some (8, false)⟩,
  ⟨some 12, .bin .gtr (.t 11) (.c (.int .i64 64)), some (8, false)⟩,
  ⟨some 13, .pick (.t 8) (.c (.bool true)) (.t 12), none⟩,
  ⟨some 14, .mov (.t 13), none⟩,
  ⟨some 15, .fld 10 (.t 1), some (14, false)⟩,
  ⟨some 16, .load none (.t 15), some (14, false)⟩,
  ⟨some 17, .mov (.t 3), some (14, false)⟩,
  ⟨some 18, .callF 85 [(.t 16), (.t 17)], some (14, false)⟩,
  ⟨some 19, .pick (.t 14) (.c (.bool true)) (.t 18), none⟩,
  ⟨some 2, .mov (.t 19), none⟩]
def b73 : ICode :=
 (.seq (.reg [(0, false), (1, false)] r73_0)
 (.seq (.reg [(0, false)] r73_1)
 (.seq (.reg [(0, false), (1, false), (2, false), (3, false), (4, false), (5, false), (6, false), (7, false), (8, false), (9, false), (10, false), (11, false), (12, false), (13, false), (14, false), (15, false), (16, false)] r73_2)
 .ret)))
def f73 : IFunc := { nt := 20, res := [((.t 2), none)], body := b73 }
def ps73 : List Phases := []
def ms73 : List (Option (List Nat)) := []
-- (chatelaine/msg.Msg).rising
def r74_0 : List IOper := [⟨some 1, .box 11 (.t 0), none⟩,
  ⟨some 2, .mov (.c (.bool false)), none⟩]
def r74_1 : List IOper := [⟨some 3, .mov (.c (.int .i64 1)), none⟩]
def r74_2 : List IOper := [⟨some 4, .mov (.t 3), none⟩,
  ⟨some 5, .fld 10 (.t 1), none⟩,
  ⟨some 6, .load none (.t 5), none⟩,
  ⟨some 7, .lenL (.t 6), none⟩,
  ⟨some 8, .bin .lss (.t 4) (.t 7), none⟩]
def r74_3 : List IOper := [⟨some 11, .fld 10 (.t 1), none⟩,
  ⟨some 12, .load none (.t 11), none⟩,
  ⟨some 13, .mov (.t 3), none⟩,
  ⟨some 14, .ixS 4 (.t 12) (.t 13), none⟩,
  ⟨some 15, .fld 0 (.t 14), none⟩,
  ⟨some 16, .load none (.t 15), none⟩,
  ⟨some 17, .fld 10 (.t 1), none⟩,
  ⟨some 18, .load none (.t 17), none⟩,
  ⟨some 19, .mov (.t 3), none⟩,
  ⟨some 20, .bin .sub (.t 19) (.c (.int .i64 1)), none⟩,
  ⟨some 21, .ixS 4 (.t 18) (.t 20), none⟩,
  ⟨some 22, .fld 0 (.t 21), none⟩,
  ⟨some 23, .load none (.t 22), none⟩,
  ⟨some 24, .bin .leq (.t 16) (.t 23), none⟩]
def r74_4 : List IOper := [⟨some 2, .mov (.c (.bool false)), none⟩]
def r74_5 : List IOper := [⟨some 9, .mov (.t 3), none⟩,
  ⟨some 10, .bin .add (.t 9) (.c (.int .i64 1)), none⟩,
  ⟨some 3, .mov (.t 10), none⟩]
def r74_6 : List IOper := [⟨some 2, .mov (.c (.bool true)), none⟩]
def b74 : ICode :=
 (.seq (.reg [(0, false), (1, false)] r74_0)
 (.seq (.seq (.reg [(0, false)] r74_1)
 (.seq (.block 0 (.loop (.seq (.mask [1, 3]) (.seq (.seq (.reg [(0, false), (1, false), (2, false), (3, false), (4, false)] r74_2)
 (.cond (.t 8) .skip
 (.exit 0)))
 (.seq (.seq (.block 1 (.seq (.reg [(0, false), (1, false), (2, false), (3, false), (4, false), (5, false), (6, false), (7, false), (8, false), (9, false), (10, false), (11, false), (12, false), (13, false)] r74_3)
 (.cond (.t 24) (.seq (.reg [(0, false)] r74_4)
 .ret)
 .skip))) (.mask [1, 3]))
 (.reg [(0, false), (1, false), (2, false)] r74_5)))))) (.mask [])))
 (.seq (.reg [(0, false)] r74_6)
 .ret)))
def f74 : IFunc := { nt := 25, res := [((.t 2), none)], body := b74 }
def ps74 : List Phases := [⟨[], [(0, false), (1, false), (2, false), (3, false), (4, false), (5, false), (6, false), (7, false), (8, false), (9, false), (10, false), (11, false), (12, false), (13, false)]⟩]
def ms74 : List (Option (List Nat)) := [some [1, 3], none, none, some [1, 3], some []]
-- chatelaine/chatelaineref02.Frame
def r75_0 : List IOper := [⟨some 4, .mov (.c (.str (⟨#[]⟩ : ByteArray))), none⟩]
def r75_1 : List IOper := [⟨some 6, .mov (.t 0), none⟩,
  ⟨some 7, .buildS 1 1 [(.int .u8 0)] [(0, (.t 6))], none⟩,
  ⟨some 8, .b2s (.t 7), none⟩,
  ⟨some 9, .mov (.t 1), none⟩,
  ⟨some 10, .lenS (.t 9), none⟩,
  ⟨some 11, .conv .u32 (.t 10), none⟩,
  ⟨some 12, .callF 86 [(.t 11), (.c (.int .i64 3))], none⟩,
  ⟨some 13, .bin .add (.t 8) (.t 12), none⟩,
  ⟨some 14, .mov (.t 1), none⟩,
  ⟨some 15, .bin .add (.t 13) (.t 14), none⟩,
  ⟨some 5, .mov (.t 15), none⟩]
def r75_2 : List IOper := [⟨some 16, .mov (.t 5), none⟩,
  ⟨some 17, .mov (.t 5), none⟩,
  ⟨some 18, .callF 87 [(.t 17)], none⟩,
  ⟨some 19, .callF 86 [(.t 18), (.c (.int .i64 4))], none⟩,
  ⟨some 20, .bin .add (.t 16) (.t 19), none⟩,
  ⟨some 4, .mov (.t 20), none⟩]
def b75 : ICode :=
 (.seq (.reg [(0, false)] r75_0)
 (.seq (.reg [(0, false), (3, false), (4, false), (5, false), (8, false), (6, false), (1, false), (2, false), (7, false), (9, false), (10, false)] r75_1)
 (.seq (.reg [(0, false), (1, false), (2, false), (3, false), (4, false), (5, false)] r75_2)
 .ret)))
def f75 : IFunc := { nt := 21, res := [((.t 4), none)], body := b75 }
def ps75 : List Phases := [⟨[([(0, false), (3, false), (4, false), (5, false), (8, false)], 6)], [(1, false), (2, false), (7, false), (9, false), (10, false)]⟩]
def ms75 : List (Option (List Nat)) := []
-- chatelaine/chatelaineref10.Inside
def r76_0 : List IOper := [⟨some 1, .box 11 (.t 0), none⟩,
  ⟨some 2, .mov (.c (.str (⟨#[]⟩ : ByteArray))), none⟩]
def r76_1 : List IOper := [⟨some 6, .fld 1 (.t 1), none⟩,
  ⟨some 7, .load none (.t 6), none⟩,
  ⟨some 8, .callF 58 [(.t 7)], none⟩,
  ⟨some 9, .fld 2 (.t 1), none⟩,
  ⟨some 10, .load none (.t 9), none⟩,
  ⟨some 11, .callF 58 [(.t 10)], none⟩,
  ⟨some 12, .bin .add (.t 8) (.t 11), none⟩,
  ⟨some 13, .fld 3 (.t 1), none⟩,
  ⟨some 14, .load none (.t 13), none⟩,
  ⟨some 15, .callF 58 [(.t 14)], none⟩,
  ⟨some 16, .bin .add (.t 12) (.t 15), none⟩,
  ⟨some 17, .fld 4 (.t 1), none⟩,
  ⟨some 18, .load (some 2) (.t 17), none⟩,
  ⟨some 19, .callF 36 [(.t 18)], none⟩,
  ⟨some 20, .bin .add (.t 16) (.t 19), none⟩,
  ⟨some 21, .fld 6 (.t 1), none⟩,
  ⟨some 22, .load none (.t 21), none⟩,
  ⟨some 23, .callF 58 [(.t 22)], none⟩,
  ⟨some 24, .bin .add (.t 20) (.t 23), none⟩,
  ⟨some 25, .fld 7 (.t 1), none⟩,
  ⟨some 26, .load none (.t 25), none⟩,
  ⟨some 27, .callF 58 [(.t 26)], none⟩,
  ⟨some 28, .bin .add (.t 24) (.t 27), none⟩,
  ⟨some 29, .fld 8 (.t 1), none⟩,
  ⟨some 30, .load none (.t 29), none⟩,
  ⟨some 31, .callF 59 [(.t 30)], none⟩,
  ⟨some 32, .bin .add (.t 28) (.t 31), none⟩,
  ⟨some 33, .fld 9 (.t 1), none⟩,
  ⟨some 34, .load none (.t 33), none⟩,
  ⟨some 35, .callF 60 [(.t 34)], none⟩,
  ⟨some 36, .bin .add (.t 32) (.t 35), none⟩,
  ⟨some 37, .fld 10 (.t 1), none⟩,
  ⟨some 38, .load none (.t 37), none⟩,
  ⟨some 39, .lenL (.t 38), none⟩,
  ⟨some 40, .callF 58 [(.t 39)], none⟩,
  ⟨some 41, .bin .add (.t 36) (.t 40), none⟩,
  ⟨some 3, .mov (.t 41), none⟩]
def r76_2 : List IOper := [⟨some 42, .fld 10 (.t 1), none⟩,
  ⟨some 43, .load none (.t 42), none⟩,
  ⟨some 44, .lenL (.t 43), none⟩,
  ⟨some 45, .mov (.c (.int .i64 0)), none⟩]
def r76_3 : List IOper := [⟨some 46, .bin .lss (.t 45) (.t 44), none⟩]
def r76_4 : List IOper := [⟨some 47, .ixS 4 (.t 43) (.t 45), none⟩,
  ⟨some 48, .load (some 4) (.t 47), none⟩,
  ⟨some 5, .alloc [(.int .i64 0), (.int .u64 0), (.int .i64 0), (.str (⟨#[]⟩ : ByteArray))], none⟩,
  ⟨none, .store 4 (.t 5) (.t 48), none⟩]
def r76_5 : List IOper := [⟨some 49, .mov (.t 3), none⟩,
  ⟨some 50, .fld 0 (.t 5), none⟩,
  ⟨some 51, .load none (.t 50), none⟩,
  ⟨some 52, .callF 58 [(.t 51)], none⟩,
  ⟨some 53, .fld 1 (.t 5), none⟩,
  ⟨some 54, .load (some 2) (.t 53), none⟩,
  ⟨some 55, .callF 36 [(.t 54)], none⟩,
  ⟨some 56, .bin .add (.t 52) (.t 55), none⟩,
  ⟨some 57, .fld 3 (.t 5), none⟩,
  ⟨some 58, .load none (.t 57), none⟩,
  ⟨some 59, .callF 60 [(.t 58)], none⟩,
  ⟨some 60, .bin .add (.t 56) (.t 59), none⟩,
  ⟨some 61, .bin .add (.t 49) (.t 60), none⟩,
  ⟨some 3, .mov (.t 61), none⟩]
def r76_6 : List IOper := [⟨some 62, .bin .add (.t 45) (.c (.int .i64 1)), none⟩,
  ⟨some 45, .mov (.t 62), none⟩]
def r76_7 : List IOper := [⟨some 63, .mov (.t 3), none⟩,
  ⟨some 2, .mov (.t 63), none⟩]
def b76 : ICode :=
 (.seq (.reg [(0, false), (1, false)] r76_0)
 (.seq (.reg [(0, false), (1, false), (3, false), (4, false), (7, false), (8, false), (11, false), (12, false), (15, false), (16, false), (19, false), (20, false), (23, false), (24, false), (27, false), (28, false), (31, false), (32, false), (33, false), (2, false), (4, true), (8, true), (12, true), (16, true), (20, true), (24, true), (28, true), (32, true), (5, false), (8, true), (12, true), (16, true), (20, true), (24, true), (28, true), (32, true), (6, false), (9, false), (12, true), (16, true), (20, true), (24, true), (28, true), (32, true), (10, false), (13, false), (16, true), (20, true), (24, true), (28, true), (32, true), (14, false), (17, false), (20, true), (24, true), (28, true), (32, true), (18, false), (21, false), (24, true), (28, true), (32, true), (22, false), (25, false), (28, true), (32, true), (26, false), (29, false), (32, true), (30, false), (34, false), (35, false), (36, false)] r76_1)
 (.seq (.seq (.reg [(0, false), (1, false), (2, false), (3, false)] r76_2)
 (.seq (.block 0 (.loop (.seq (.mask [3, 43, 44, 45]) (.seq (.reg [(0, false)] r76_3)
 (.seq (.cond (.t 46) .skip
 (.exit 0))
 (.seq (.seq (.block 1 (.seq (.reg [(0, false), (1, false), (2, false), (3, false)] r76_4)
 (.reg [(0, false), (1, false), (2, false), (4, false), (5, false), (8, false), (9, false), (3, false), (5, true), (9, true), (6, false), (9, true), (7, false), (10, false), (11, false), (12, false), (13, false)] r76_5))) (.mask [3, 43, 44, 45]))
 (.reg [(0, false), (1, false)] r76_6))))))) (.mask [3])))
 (.seq (.reg [(0, false), (1, false)] r76_7)
 .ret))))
def f76 : IFunc := { nt := 64, res := [((.t 2), none)], body := b76 }
def ps76 : List Phases := [⟨[([(0, false), (1, false), (3, false), (4, false), (7, false), (8, false), (11, false), (12, false), (15, false), (16, false), (19, false), (20, false), (23, false), (24, false), (27, false), (28, false), (31, false), (32, false), (33, false)], 2), ([(4, true), (8, true), (12, true), (16, true), (20, true), (24, true), (28, true), (32, true)], 5), ([(8, true), (12, true), (16, true), (20, true), (24, true), (28, true), (32, true), (6, false)], 9), ([(12, true), (16, true), (20, true), (24, true), (28, true), (32, true), (10, false)], 13), ([(16, true), (20, true), (24, true), (28, true), (32, true), (14, false)], 17), ([(20, true), (24, true), (28, true), (32, true), (18, false)], 21), ([(24, true), (28, true), (32, true), (22, false)], 25), ([(28, true), (32, true), (26, false)], 29), ([(32, true), (30, false)], 34)], [(35, false), (36, false)]⟩, ⟨[([(0, false), (1, false), (2, false), (4, false), (5, false), (8, false), (9, false)], 3), ([(5, true), (9, true)], 6), ([(9, true), (7, false)], 10)], [(11, false), (12, false), (13, false)]⟩]
def ms76 : List (Option (List Nat)) := [some [3, 43, 44, 45], none, some [3, 43, 44, 45], some [3]]
-- chatelaine/chatelaineref01.wide
def r80_0 : List IOper := [⟨some 4, .mov (.c (.str (⟨#[]⟩ : ByteArray))), none⟩]
def r80_1 : List IOper := [⟨some 5, .mov (.c (.str (⟨#[]⟩ : ByteArray))), none⟩]
def r80_2 : List IOper := [⟨some 6, .mov (.c (.int .i64 0)), none⟩]
def r80_3 : List IOper := [⟨some 7, .mov (.t 6), none⟩,
  ⟨some 8, .mov (.t 1), none⟩,
  ⟨some 9, .bin .lss (.t 7) (.t 8), none⟩]
def r80_4 : List IOper := [⟨some 12, .mov (.t 0), none⟩,
  ⟨some 13, .bin .rem (.t 12) (.c (.int .u64 256)), none⟩,
  ⟨some 14, .conv .u8 (.t 13), none⟩,
  ⟨some 15, .buildS 1 1 [(.int .u8 0)] [(0, (.t 14))], none⟩,
  ⟨some 16, .b2s (.t 15), none⟩,
  ⟨some 17, .mov (.t 5), none⟩,
  ⟨some 18, .bin .add (.t 16) (.t 17), none⟩,
  ⟨some 5, .mov (.t 18), none⟩]
def r80_5 : List IOper := [⟨some 19, .mov (.t 0), none⟩,
  ⟨some 20, .bin .quo (.t 19) (.c (.int .u64 256)), none⟩,
  ⟨some 0, .mov (.t 20), none⟩]
def r80_6 : List IOper := [⟨some 10, .mov (.t 6), none⟩,
  ⟨some 11, .bin .add (.t 10) (.c (.int .i64 1)), none⟩,
  ⟨some 6, .mov (.t 11), none⟩]
def r80_7 : List IOper := [⟨some 21, .mov (.t 5), none⟩,
  ⟨some 4, .mov (.t 21), none⟩]
def b80 : ICode :=
 (.seq (.reg [(0, false)] r80_0)
 (.seq (.reg [(0, false)] r80_1)
 (.seq (.seq (.reg [(0, false)] r80_2)
 (.seq (.block 0 (.loop (.seq (.mask [0, 1, 5, 6]) (.seq (.seq (.reg [(0, false), (1, false), (2, false)] r80_3)
 (.cond (.t 9) .skip
 (.exit 0)))
 (.seq (.seq (.block 1 (.seq (.reg [(0, false), (1, false), (2, false), (3, false), (4, false), (5, false), (6, false), (7, false)] r80_4)
 (.reg [(0, false), (1, false), (2, false)] r80_5))) (.mask [0, 1, 5, 6]))
 (.reg [(0, false), (1, false), (2, false)] r80_6)))))) (.mask [5])))
 (.seq (.reg [(0, false), (1, false)] r80_7)
 .ret))))
def f80 : IFunc := { nt := 22, res := [((.t 4), none)], body := b80 }
def ps80 : List Phases := []
def ms80 : List (Option (List Nat)) := [some [0, 1, 5, 6], none, some [0, 1, 5, 6], some [5]]
-- chatelaine/msg.within
def r82_0 : List IOper := [⟨some 4, .mov (.c (.bool false)), none⟩]
def r82_1 : List IOper := [⟨some 5, .mov (.t 0), none⟩,
  ⟨some 6, .bin .geq (.t 5) (.c (.int .i64 0)), none⟩,
  ⟨some 7, .mov (.t 6), none⟩,
  ⟨some 8, .mov (.t 0), some (7, true)⟩,
  ⟨some 9, .mov (.t 1), some (7, true)⟩,
  ⟨some 10, .bin .leq (.t 8) (.t 9), some (7, true)⟩,
  ⟨some 11, .pick (.t 7) (.t 10) (.c (.bool false)), none⟩,
  ⟨some 4, .mov (.t 11), none⟩]
def b82 : ICode :=
 (.seq (.reg [(0, false)] r82_0)
 (.seq (.reg [(0, false), (1, false), (2, false), (3, false), (4, false), (5, false), (6, false), (7, false)] r82_1)
 .ret))
def f82 : IFunc := { nt := 12, res := [((.t 4), none)], body := b82 }
def ps82 : List Phases := []
def ms82 : List (Option (List Nat)) := []
-- chatelaine/msg.sound
def r83_0 : List IOper := [⟨some 1, .box 2 (.t 0), none⟩,
  ⟨some 2, .mov (.c (.bool false)), none⟩]
def r83_1 : List IOper := [⟨some 3, .fld 1 (.t 1), none⟩,
  ⟨some 4, .load none (.t 3), none⟩,
  ⟨some 5, .callF 82 [(.t 4), (.c (.int .i64 11))], none⟩,
  ⟨some 6, .mov (.t 5), none⟩,
  ⟨some 7, .fld 0 (.t 1), some (6, true)⟩,
  ⟨some 8, .load none (.t 7), some (6, true)⟩,
  ⟨some 9, .bin .gtr (.t 8) (.c (.int .u64 0)), some (6, true)⟩,
  ⟨some 10, .mov (.t 9), some (6, true)⟩,
  ⟨some 11, .fld 1 (.t 1), some (10, false)⟩,
  ⟨some 12, .load none (.t 11), some (10, false)⟩,
  ⟨some 13, .bin .eql (.t 12) (.c (.int .i64 0)), some (10, false)⟩,
  ⟨some 14, .pick (.t 10) (.c (.bool true)) (.t 13), some (6, true)⟩,
  ⟨some 15, .pick (.t 6) (.t 14) (.c (.bool false)), none⟩,
  ⟨some 2, .mov (.t 15), none⟩]
def b83 : ICode :=
 (.seq (.reg [(0, false), (1, false)] r83_0)
 (.seq (.reg [(0, false), (1, false), (2, false), (3, false), (4, false), (5, false), (6, false), (7, false), (8, false), (9, false), (10, false), (11, false), (12, false), (13, false)] r83_1)
 .ret))
def f83 : IFunc := { nt := 16, res := [((.t 2), none)], body := b83 }
def ps83 : List Phases := []
def ms83 : List (Option (List Nat)) := []
-- (chatelaine/msg.Msg).great$1
def r84_0 : List IOper := [⟨some 1, .box 4 (.t 0), none⟩,
  ⟨some 2, .mov (.c (.bool false)), none⟩]
def r84_1 : List IOper := [⟨some 3, .fld 3 (.t 1), none⟩,
  ⟨some 4, .load none (.t 3), none⟩,
  ⟨some 5, .lenS (.t 4), none⟩,
  ⟨some 6, .bin .gtr (.t 5) (.c (.int .i64 400)), none⟩,
  ⟨some 2, .mov (.t 6), none⟩]
def b84 : ICode :=
 (.seq (.reg [(0, false), (1, false)] r84_0)
 (.seq (.reg [(0, false), (1, false), (2, false), (3, false), (4, false)] r84_1)
 .ret))
def f84 : IFunc := { nt := 7, res := [((.t 2), none)], body := b84 }
def ps84 : List Phases := []
def ms84 : List (Option (List Nat)) := []
-- slices.ContainsFunc[[]chatelaine/msg.Entry,chatelaine/msg.Entry]
def r85_0 : List IOper := [⟨some 4, .mov (.c (.bool false)), none⟩]
def r85_1 : List IOper := [⟨some 5, .mov (.t 0), none⟩,
  ⟨some 6, .mov (.t 1), none⟩,
  ⟨some 7, .callF 89 [(.t 5), (.t 6)], none⟩,
  ⟨some 8, .bin .geq (.t 7) (.c (.int .i64 0)), none⟩,
  ⟨some 4, .mov (.t 8), none⟩]
def b85 : ICode :=
 (.seq (.reg [(0, false)] r85_0)
 (.seq (.reg [(0, false), (1, false), (2, false), (3, false), (4, false)] r85_1)
 .ret))
def f85 : IFunc := { nt := 9, res := [((.t 4), none)], body := b85 }
def ps85 : List Phases := []
def ms85 : List (Option (List Nat)) := []
-- chatelaine/chatelaineref02.Digits
def r86_0 : List IOper := [⟨some 4, .mov (.c (.str (⟨#[]⟩ : ByteArray))), none⟩]
def r86_1 : List IOper := [⟨some 5, .mov (.c (.str (⟨#[]⟩ : ByteArray))), none⟩]
def r86_2 : List IOper := [⟨some 6, .mov (.c (.int .i64 0)), none⟩]
def r86_3 : List IOper := [⟨some 7, .mov (.t 6), none⟩,
  ⟨some 8, .mov (.t 1), none⟩,
  ⟨some 9, .bin .lss (.t 7) (.t 8), none⟩]
def r86_4 : List IOper := [⟨some 12, .mov (.t 0), none⟩,
  ⟨some 13, .bin .rem (.t 12) (.c (.int .u32 256)), none⟩,
  ⟨some 14, .conv .u8 (.t 13), none⟩,
  ⟨some 15, .buildS 1 1 [(.int .u8 0)] [(0, (.t 14))], none⟩,
  ⟨some 16, .b2s (.t 15), none⟩,
  ⟨some 17, .mov (.t 5), none⟩,
  ⟨some 18, .bin .add (.t 16) (.t 17), none⟩,
  ⟨some 5, .mov (.t 18), none⟩]
def r86_5 : List IOper := [⟨some 19, .mov (.t 0), none⟩,
  ⟨some 20, .bin .quo (.t 19) (.c (.int .u32 256)), none⟩,
  ⟨some 0, .mov (.t 20), none⟩]
def r86_6 : List IOper := [⟨some 10, .mov (.t 6), none⟩,
  ⟨some 11, .bin .add (.t 10) (.c (.int .i64 1)), none⟩,
  ⟨some 6, .mov (.t 11), none⟩]
def r86_7 : List IOper := [⟨some 21, .mov (.t 5), none⟩,
  ⟨some 4, .mov (.t 21), none⟩]
def b86 : ICode :=
 (.seq (.reg [(0, false)] r86_0)
 (.seq (.reg [(0, false)] r86_1)
 (.seq (.seq (.reg [(0, false)] r86_2)
 (.seq (.block 0 (.loop (.seq (.mask [0, 1, 5, 6]) (.seq (.seq (.reg [(0, false), (1, false), (2, false)] r86_3)
 (.cond (.t 9) .skip
 (.exit 0)))
 (.seq (.seq (.block 1 (.seq (.reg [(0, false), (1, false), (2, false), (3, false), (4, false), (5, false), (6, false), (7, false)] r86_4)
 (.reg [(0, false), (1, false), (2, false)] r86_5))) (.mask [0, 1, 5, 6]))
 (.reg [(0, false), (1, false), (2, false)] r86_6)))))) (.mask [5])))
 (.seq (.reg [(0, false), (1, false)] r86_7)
 .ret))))
def f86 : IFunc := { nt := 22, res := [((.t 4), none)], body := b86 }
def ps86 : List Phases := []
def ms86 : List (Option (List Nat)) := [some [0, 1, 5, 6], none, some [0, 1, 5, 6], some [5]]
-- chatelaine/chatelaineref02.Sum
def r87_0 : List IOper := [⟨some 2, .mov (.c (.int .u32 0)), none⟩]
def r87_1 : List IOper := [⟨some 3, .mov (.c (.int .u32 4294967295)), none⟩]
def r87_2 : List IOper := [⟨some 4, .mov (.c (.int .i64 0)), none⟩]
def r87_3 : List IOper := [⟨some 8, .mov (.t 4), none⟩,
  ⟨some 9, .mov (.t 0), none⟩,
  ⟨some 10, .lenS (.t 9), none⟩,
  ⟨some 11, .bin .lss (.t 8) (.t 10), none⟩]
def r87_4 : List IOper := [⟨some 14, .mov (.t 0), none⟩,
  ⟨some 15, .mov (.t 4), none⟩,
  ⟨some 16, .ixStr (.t 14) (.t 15), none⟩,
  ⟨some 5, .mov (.t 16), none⟩]
def r87_5 : List IOper := [⟨some 6, .mov (.c (.int .i64 0)), none⟩]
def r87_6 : List IOper := [⟨some 17, .mov (.t 6), none⟩,
  ⟨some 18, .bin .lss (.t 17) (.c (.int .i64 8)), none⟩]
def r87_7 : List IOper := [⟨some 21, .mov (.t 3), none⟩,
  ⟨some 22, .bin .rem (.t 21) (.c (.int .u32 2)), none⟩,
  ⟨some 23, .mov (.t 5), none⟩,
  ⟨some 24, .bin .rem (.t 23) (.c (.int .u8 2)), none⟩,
  ⟨some 25, .conv .u32 (.t 24), none⟩,
  ⟨some 26, .bin .neq (.t 22) (.t 25), none⟩,
  ⟨some 7, .mov (.t 26), none⟩]
def r87_8 : List IOper := [⟨some 27, .mov (.t 3), none⟩,
  ⟨some 28, .bin .quo (.t 27) (.c (.int .u32 2)), none⟩,
  ⟨some 3, .mov (.t 28), none⟩]
def r87_9 : List IOper := [⟨some 29, .mov (.t 5), none⟩,
  ⟨some 30, .bin .quo (.t 29) (.c (.int .u8 2)), none⟩,
  ⟨some 5, .mov (.t 30), none⟩]
def r87_10 : List IOper := [⟨some 31, .mov (.t 7), none⟩]
def r87_11 : List IOper := [⟨some 32, .mov (.t 3), none⟩,
  ⟨some 33, .bin .xor (.t 32) (.c (.int .u32 3988292384)), none⟩,
  ⟨some 3, .mov (.t 33), none⟩]
def r87_12 : List IOper := [⟨some 19, .mov (.t 6), none⟩,
  ⟨some 20, .bin .add (.t 19) (.c (.int .i64 1)), none⟩,
  ⟨some 6, .mov (.t 20), none⟩]
def r87_13 : List IOper := [⟨some 12, .mov (.t 4), none⟩,
  ⟨some 13, .bin .add (.t 12) (.c (.int .i64 1)), none⟩,
  ⟨some 4, .mov (.t 13), none⟩]
def r87_14 : List IOper := [⟨some 34, .mov (.t 3), none⟩,
  ⟨some 35, .bin .sub (.c (.int .u32 4294967295)) (.t 34), none⟩,
  ⟨some 2, .mov (.t 35), none⟩]
def b87 : ICode :=
 (.seq (.reg [(0, false)] r87_0)
 (.seq (.reg [(0, false)] r87_1)
 (.seq (.seq (.reg [(0, false)] r87_2)
 (.seq (.block 0 (.loop (.seq (.mask [0, 3, 4]) (.seq (.seq (.reg [(0, false), (1, false), (2, false), (3, false)] r87_3)
 (.cond (.t 11) .skip
 (.exit 0)))
 (.seq (.seq (.block 1 (.seq (.reg [(0, false), (1, false), (2, false), (3, false)] r87_4)
 (.seq (.reg [(0, false)] r87_5)
 (.seq (.block 2 (.loop (.seq (.mask [0, 3, 4, 5, 6]) (.seq (.seq (.reg [(0, false), (1, false)] r87_6)
 (.cond (.t 18) .skip
 (.exit 2)))
 (.seq (.seq (.block 3 (.seq (.reg [(0, false), (1, false), (2, false), (3, false), (4, false), (5, false), (6, false)] r87_7)
 (.seq (.reg [(0, false), (1, false), (2, false)] r87_8)
 (.seq (.reg [(0, false), (1, false), (2, false)] r87_9)
 (.seq (.reg [(0, false)] r87_10)
 (.seq (.cond (.t 31) (.reg [(0, false), (1, false), (2, false)] r87_11)
 .skip) (.mask [0, 3, 4, 5, 6]))))))) (.mask [0, 3, 4, 5, 6]))
 (.reg [(0, false), (1, false), (2, false)] r87_12)))))) (.mask [0, 3, 4]))))) (.mask [0, 3, 4]))
 (.reg [(0, false), (1, false), (2, false)] r87_13)))))) (.mask [3])))
 (.seq (.reg [(0, false), (1, false), (2, false)] r87_14)
 .ret))))
def f87 : IFunc := { nt := 36, res := [((.t 2), none)], body := b87 }
def ps87 : List Phases := []
def ms87 : List (Option (List Nat)) := [some [0, 3, 4], none, some [0, 3, 4, 5, 6], none, some [0, 3, 4, 5, 6], some [0, 3, 4, 5, 6], some [0, 3, 4], some [0, 3, 4], some [3]]
-- slices.IndexFunc[[]chatelaine/msg.Entry,chatelaine/msg.Entry]
def r89_0 : List IOper := [⟨some 4, .mov (.c (.int .i64 0)), none⟩]
def r89_1 : List IOper := [⟨some 6, .mov (.t 0), none⟩,
  ⟨some 7, .lenL (.t 6), none⟩,
  ⟨some 8, .mov (.c (.int .i64 0)), none⟩]
def r89_2 : List IOper := [⟨some 9, .bin .lss (.t 8) (.t 7), none⟩]
def r89_3 : List IOper := [⟨some 10, .mov (.t 8), none⟩,
  ⟨some 5, .mov (.t 10), none⟩]
def r89_4 : List IOper := [⟨some 11, .mov (.t 1), none⟩,
  ⟨some 12, .mov (.t 0), none⟩,
  ⟨some 13, .mov (.t 5), none⟩,
  ⟨some 14, .ixS 4 (.t 12) (.t 13), none⟩,
  ⟨some 15, .load (some 4) (.t 14), none⟩,
  ⟨some 16, .callV (.t 11) [(.t 15)], none⟩]
def r89_5 : List IOper := [⟨some 17, .mov (.t 5), none⟩,
  ⟨some 4, .mov (.t 17), none⟩]
def r89_6 : List IOper := [⟨some 18, .bin .add (.t 8) (.c (.int .i64 1)), none⟩,
  ⟨some 8, .mov (.t 18), none⟩]
def r89_7 : List IOper := [⟨some 4, .mov (.c (.int .i64 (-1))), none⟩]
def b89 : ICode :=
 (.seq (.reg [(0, false)] r89_0)
 (.seq (.seq (.reg [(0, false), (1, false), (2, false)] r89_1)
 (.seq (.block 0 (.loop (.seq (.mask [0, 1, 7, 8]) (.seq (.reg [(0, false)] r89_2)
 (.seq (.cond (.t 9) .skip
 (.exit 0))
 (.seq (.seq (.block 1 (.seq (.reg [(0, false), (1, false)] r89_3)
 (.seq (.reg [(0, false), (1, false), (2, false), (3, false), (4, false), (5, false)] r89_4)
 (.cond (.t 16) (.seq (.reg [(0, false), (1, false)] r89_5)
 .ret)
 .skip)))) (.mask [0, 1, 7, 8]))
 (.reg [(0, false), (1, false)] r89_6))))))) (.mask [])))
 (.seq (.reg [(0, false)] r89_7)
 .ret)))
def f89 : IFunc := { nt := 19, res := [((.t 4), none)], body := b89 }
def ps89 : List Phases := []
def ms89 : List (Option (List Nat)) := [some [0, 1, 7, 8], none, none, some [0, 1, 7, 8], some []]
theorem ok9 : rfunc Try.prog Try.f9 ps9 ms9 = some f9 := by kernel_rfl
theorem ok16 : rfunc Try.prog Try.f16 ps16 ms16 = some f16 := by kernel_rfl
theorem ok30 : rfunc Try.prog Try.f30 ps30 ms30 = some f30 := by kernel_rfl
theorem ok31 : rfunc Try.prog Try.f31 ps31 ms31 = some f31 := by kernel_rfl
theorem ok35 : rfunc Try.prog Try.f35 ps35 ms35 = some f35 := by kernel_rfl
theorem ok36 : rfunc Try.prog Try.f36 ps36 ms36 = some f36 := by kernel_rfl
theorem ok39 : rfunc Try.prog Try.f39 ps39 ms39 = some f39 := by kernel_rfl
theorem ok40 : rfunc Try.prog Try.f40 ps40 ms40 = some f40 := by kernel_rfl
theorem ok41 : rfunc Try.prog Try.f41 ps41 ms41 = some f41 := by kernel_rfl
theorem ok42 : rfunc Try.prog Try.f42 ps42 ms42 = some f42 := by kernel_rfl
theorem ok44 : rfunc Try.prog Try.f44 ps44 ms44 = some f44 := by kernel_rfl
theorem ok45 : rfunc Try.prog Try.f45 ps45 ms45 = some f45 := by kernel_rfl
theorem ok46 : rfunc Try.prog Try.f46 ps46 ms46 = some f46 := by kernel_rfl
theorem ok47 : rfunc Try.prog Try.f47 ps47 ms47 = some f47 := by kernel_rfl
theorem ok48 : rfunc Try.prog Try.f48 ps48 ms48 = some f48 := by kernel_rfl
theorem ok49 : rfunc Try.prog Try.f49 ps49 ms49 = some f49 := by kernel_rfl
theorem ok50 : rfunc Try.prog Try.f50 ps50 ms50 = some f50 := by kernel_rfl
theorem ok51 : rfunc Try.prog Try.f51 ps51 ms51 = some f51 := by kernel_rfl
theorem ok57 : rfunc Try.prog Try.f57 ps57 ms57 = some f57 := by kernel_rfl
theorem ok58 : rfunc Try.prog Try.f58 ps58 ms58 = some f58 := by kernel_rfl
theorem ok59 : rfunc Try.prog Try.f59 ps59 ms59 = some f59 := by kernel_rfl
theorem ok60 : rfunc Try.prog Try.f60 ps60 ms60 = some f60 := by kernel_rfl
theorem ok64 : rfunc Try.prog Try.f64 ps64 ms64 = some f64 := by kernel_rfl
theorem ok65 : rfunc Try.prog Try.f65 ps65 ms65 = some f65 := by kernel_rfl
theorem ok67 : rfunc Try.prog Try.f67 ps67 ms67 = some f67 := by kernel_rfl
theorem ok69 : rfunc Try.prog Try.f69 ps69 ms69 = some f69 := by kernel_rfl
theorem ok70 : rfunc Try.prog Try.f70 ps70 ms70 = some f70 := by kernel_rfl
theorem ok71 : rfunc Try.prog Try.f71 ps71 ms71 = some f71 := by kernel_rfl
theorem ok72 : rfunc Try.prog Try.f72 ps72 ms72 = some f72 := by kernel_rfl
theorem ok73 : rfunc Try.prog Try.f73 ps73 ms73 = some f73 := by kernel_rfl
theorem ok74 : rfunc Try.prog Try.f74 ps74 ms74 = some f74 := by kernel_rfl
theorem ok75 : rfunc Try.prog Try.f75 ps75 ms75 = some f75 := by kernel_rfl
theorem ok76 : rfunc Try.prog Try.f76 ps76 ms76 = some f76 := by kernel_rfl
theorem ok80 : rfunc Try.prog Try.f80 ps80 ms80 = some f80 := by kernel_rfl
theorem ok82 : rfunc Try.prog Try.f82 ps82 ms82 = some f82 := by kernel_rfl
theorem ok83 : rfunc Try.prog Try.f83 ps83 ms83 = some f83 := by kernel_rfl
theorem ok84 : rfunc Try.prog Try.f84 ps84 ms84 = some f84 := by kernel_rfl
theorem ok85 : rfunc Try.prog Try.f85 ps85 ms85 = some f85 := by kernel_rfl
theorem ok86 : rfunc Try.prog Try.f86 ps86 ms86 = some f86 := by kernel_rfl
theorem ok87 : rfunc Try.prog Try.f87 ps87 ms87 = some f87 := by kernel_rfl
theorem ok89 : rfunc Try.prog Try.f89 ps89 ms89 = some f89 := by kernel_rfl
def T : FuncId → Option IFunc
  | 9 => some f9
  | 16 => some f16
  | 30 => some f30
  | 31 => some f31
  | 35 => some f35
  | 36 => some f36
  | 39 => some f39
  | 40 => some f40
  | 41 => some f41
  | 42 => some f42
  | 44 => some f44
  | 45 => some f45
  | 46 => some f46
  | 47 => some f47
  | 48 => some f48
  | 49 => some f49
  | 50 => some f50
  | 51 => some f51
  | 57 => some f57
  | 58 => some f58
  | 59 => some f59
  | 60 => some f60
  | 64 => some f64
  | 65 => some f65
  | 67 => some f67
  | 69 => some f69
  | 70 => some f70
  | 71 => some f71
  | 72 => some f72
  | 73 => some f73
  | 74 => some f74
  | 75 => some f75
  | 76 => some f76
  | 80 => some f80
  | 82 => some f82
  | 83 => some f83
  | 84 => some f84
  | 85 => some f85
  | 86 => some f86
  | 87 => some f87
  | 89 => some f89
  | _ => none
theorem T_ok : TOk Try.prog T := by
  intro f i h
  unfold T at h
  split at h <;> cases h
  · exact .inl ⟨_, _, _, Try.func9, ok9⟩
  · exact .inl ⟨_, _, _, Try.func16, ok16⟩
  · exact .inl ⟨_, _, _, Try.func30, ok30⟩
  · exact .inl ⟨_, _, _, Try.func31, ok31⟩
  · exact .inl ⟨_, _, _, Try.func35, ok35⟩
  · exact .inl ⟨_, _, _, Try.func36, ok36⟩
  · exact .inl ⟨_, _, _, Try.func39, ok39⟩
  · exact .inl ⟨_, _, _, Try.func40, ok40⟩
  · exact .inl ⟨_, _, _, Try.func41, ok41⟩
  · exact .inl ⟨_, _, _, Try.func42, ok42⟩
  · exact .inl ⟨_, _, _, Try.func44, ok44⟩
  · exact .inl ⟨_, _, _, Try.func45, ok45⟩
  · exact .inl ⟨_, _, _, Try.func46, ok46⟩
  · exact .inl ⟨_, _, _, Try.func47, ok47⟩
  · exact .inl ⟨_, _, _, Try.func48, ok48⟩
  · exact .inl ⟨_, _, _, Try.func49, ok49⟩
  · exact .inl ⟨_, _, _, Try.func50, ok50⟩
  · exact .inl ⟨_, _, _, Try.func51, ok51⟩
  · exact .inl ⟨_, _, _, Try.func57, ok57⟩
  · exact .inl ⟨_, _, _, Try.func58, ok58⟩
  · exact .inl ⟨_, _, _, Try.func59, ok59⟩
  · exact .inl ⟨_, _, _, Try.func60, ok60⟩
  · exact .inl ⟨_, _, _, Try.func64, ok64⟩
  · exact .inl ⟨_, _, _, Try.func65, ok65⟩
  · exact .inl ⟨_, _, _, Try.func67, ok67⟩
  · exact .inl ⟨_, _, _, Try.func69, ok69⟩
  · exact .inl ⟨_, _, _, Try.func70, ok70⟩
  · exact .inl ⟨_, _, _, Try.func71, ok71⟩
  · exact .inl ⟨_, _, _, Try.func72, ok72⟩
  · exact .inl ⟨_, _, _, Try.func73, ok73⟩
  · exact .inl ⟨_, _, _, Try.func74, ok74⟩
  · exact .inl ⟨_, _, _, Try.func75, ok75⟩
  · exact .inl ⟨_, _, _, Try.func76, ok76⟩
  · exact .inl ⟨_, _, _, Try.func80, ok80⟩
  · exact .inl ⟨_, _, _, Try.func82, ok82⟩
  · exact .inl ⟨_, _, _, Try.func83, ok83⟩
  · exact .inl ⟨_, _, _, Try.func84, ok84⟩
  · exact .inl ⟨_, _, _, Try.func85, ok85⟩
  · exact .inl ⟨_, _, _, Try.func86, ok86⟩
  · exact .inl ⟨_, _, _, Try.func87, ok87⟩
  · exact .inl ⟨_, _, _, Try.func89, ok89⟩
end Go.Proofs.YtgekngfnhhdamaaI
