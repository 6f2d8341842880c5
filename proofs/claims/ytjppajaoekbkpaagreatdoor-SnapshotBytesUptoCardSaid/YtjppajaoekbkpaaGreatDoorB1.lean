/- A part of the proof: what the calls do, told by values. -/
import Derived.Test.YtjppajaoekbkpaaGreatDoorA2
import Derived.Test.YtjppajaoekbkpaaGreatDoorProg
import Derived.KernelRfl
import Derived.Shelf.SlLaysM
set_option linter.unusedVariables false
set_option linter.unusedSimpArgs false
set_option maxRecDepth 100000
set_option maxHeartbeats 4000000
namespace Go.Proofs.YtjppajaoekbkpaaGreatDoor
open Go Go.Av
attribute [go_sem] Tryz.underlying3
section
@[go_sem] theorem tk_3 : tk Tryz.prog 3 = some (1, false) := by kernel_rfl
@[go_sem] theorem tp_3 : tkPlaces Tryz.prog 3 = none := by kernel_rfl
@[go_sem] theorem ta_3 : tkArr Tryz.prog 3 = none := by kernel_rfl
@[go_sem] theorem tb_3 : tkBytes Tryz.prog 3 = some 8 := by kernel_rfl
@[go_sem] theorem tn_3 : notInt Tryz.prog 3 = false := by kernel_rfl
@[go_sem] theorem tz_3 : tkZero Tryz.prog 3 = some [.int .i64 0] := by kernel_rfl
attribute [go_sem] Tryz.underlying4
@[go_sem] theorem tk_4 : tk Tryz.prog 4 = some (1, false) := by kernel_rfl
@[go_sem] theorem tp_4 : tkPlaces Tryz.prog 4 = none := by kernel_rfl
@[go_sem] theorem ta_4 : tkArr Tryz.prog 4 = none := by kernel_rfl
@[go_sem] theorem tb_4 : tkBytes Tryz.prog 4 = some 1 := by kernel_rfl
@[go_sem] theorem tn_4 : notInt Tryz.prog 4 = true := by kernel_rfl
@[go_sem] theorem tz_4 : tkZero Tryz.prog 4 = some [.bool false] := by kernel_rfl
attribute [go_sem] Tryz.underlying5
@[go_sem] theorem tk_5 : tk Tryz.prog 5 = some (1, false) := by kernel_rfl
@[go_sem] theorem tp_5 : tkPlaces Tryz.prog 5 = none := by kernel_rfl
@[go_sem] theorem ta_5 : tkArr Tryz.prog 5 = none := by kernel_rfl
@[go_sem] theorem tb_5 : tkBytes Tryz.prog 5 = some 1 := by kernel_rfl
@[go_sem] theorem tn_5 : notInt Tryz.prog 5 = false := by kernel_rfl
@[go_sem] theorem tz_5 : tkZero Tryz.prog 5 = some [.int .u8 0] := by kernel_rfl
attribute [go_sem] Tryz.underlying9
@[go_sem] theorem tk_9 : tk Tryz.prog 9 = some (1, false) := by kernel_rfl
@[go_sem] theorem tp_9 : tkPlaces Tryz.prog 9 = none := by kernel_rfl
@[go_sem] theorem ta_9 : tkArr Tryz.prog 9 = none := by kernel_rfl
@[go_sem] theorem tb_9 : tkBytes Tryz.prog 9 = some 16 := by kernel_rfl
@[go_sem] theorem tn_9 : notInt Tryz.prog 9 = true := by kernel_rfl
@[go_sem] theorem tz_9 : tkZero Tryz.prog 9 = some [.string ⟨#[]⟩] := by kernel_rfl
attribute [go_sem] Tryz.underlying17
@[go_sem] theorem tk_17 : tk Tryz.prog 17 = some (1, false) := by kernel_rfl
@[go_sem] theorem tp_17 : tkPlaces Tryz.prog 17 = none := by kernel_rfl
@[go_sem] theorem ta_17 : tkArr Tryz.prog 17 = none := by kernel_rfl
@[go_sem] theorem tb_17 : tkBytes Tryz.prog 17 = some 8 := by kernel_rfl
@[go_sem] theorem tn_17 : notInt Tryz.prog 17 = true := by kernel_rfl
@[go_sem] theorem tz_17 : tkZero Tryz.prog 17 = some [.pointer none] := by kernel_rfl
attribute [go_sem] Tryz.underlying20
@[go_sem] theorem tk_20 : tk Tryz.prog 20 = some (1, false) := by kernel_rfl
@[go_sem] theorem tp_20 : tkPlaces Tryz.prog 20 = none := by kernel_rfl
@[go_sem] theorem ta_20 : tkArr Tryz.prog 20 = none := by kernel_rfl
@[go_sem] theorem tb_20 : tkBytes Tryz.prog 20 = some 16 := by kernel_rfl
@[go_sem] theorem tn_20 : notInt Tryz.prog 20 = true := by kernel_rfl
@[go_sem] theorem tz_20 : tkZero Tryz.prog 20 = some [.nilIface] := by kernel_rfl
attribute [go_sem] Tryz.underlying22
@[go_sem] theorem tk_22 : tk Tryz.prog 22 = some (1, false) := by kernel_rfl
@[go_sem] theorem tp_22 : tkPlaces Tryz.prog 22 = none := by kernel_rfl
@[go_sem] theorem ta_22 : tkArr Tryz.prog 22 = none := by kernel_rfl
@[go_sem] theorem te_22 : tkElem Tryz.prog 22 = some (3, true) := by kernel_rfl
@[go_sem] theorem tb_22 : tkBytes Tryz.prog 22 = some 24 := by kernel_rfl
@[go_sem] theorem tn_22 : notInt Tryz.prog 22 = true := by kernel_rfl
@[go_sem] theorem tz_22 : tkZero Tryz.prog 22 = some [.slice none 0 0] := by kernel_rfl
attribute [go_sem] Tryz.underlying23
@[go_sem] theorem tk_23 : tk Tryz.prog 23 = some (1, false) := by kernel_rfl
@[go_sem] theorem tp_23 : tkPlaces Tryz.prog 23 = none := by kernel_rfl
@[go_sem] theorem ta_23 : tkArr Tryz.prog 23 = none := by kernel_rfl
@[go_sem] theorem te_23 : tkElem Tryz.prog 23 = some (1, false) := by kernel_rfl
@[go_sem] theorem tb_23 : tkBytes Tryz.prog 23 = some 24 := by kernel_rfl
@[go_sem] theorem tn_23 : notInt Tryz.prog 23 = true := by kernel_rfl
@[go_sem] theorem tz_23 : tkZero Tryz.prog 23 = some [.slice none 0 0] := by kernel_rfl
attribute [go_sem] Tryz.underlying24
@[go_sem] theorem tk_24 : tk Tryz.prog 24 = some (1, false) := by kernel_rfl
@[go_sem] theorem tp_24 : tkPlaces Tryz.prog 24 = none := by kernel_rfl
@[go_sem] theorem ta_24 : tkArr Tryz.prog 24 = none := by kernel_rfl
@[go_sem] theorem tb_24 : tkBytes Tryz.prog 24 = some 2 := by kernel_rfl
@[go_sem] theorem tn_24 : notInt Tryz.prog 24 = false := by kernel_rfl
@[go_sem] theorem tz_24 : tkZero Tryz.prog 24 = some [.int .u16 0] := by kernel_rfl
attribute [go_sem] Tryz.underlying27
@[go_sem] theorem tk_27 : tk Tryz.prog 27 = some (1, false) := by kernel_rfl
@[go_sem] theorem tp_27 : tkPlaces Tryz.prog 27 = none := by kernel_rfl
@[go_sem] theorem ta_27 : tkArr Tryz.prog 27 = none := by kernel_rfl
@[go_sem] theorem tb_27 : tkBytes Tryz.prog 27 = some 16 := by kernel_rfl
@[go_sem] theorem tn_27 : notInt Tryz.prog 27 = true := by kernel_rfl
@[go_sem] theorem tz_27 : tkZero Tryz.prog 27 = some [.nilIface] := by kernel_rfl
attribute [go_sem] Tryz.underlying30
@[go_sem] theorem tk_30 : tk Tryz.prog 30 = some (1, false) := by kernel_rfl
@[go_sem] theorem tp_30 : tkPlaces Tryz.prog 30 = none := by kernel_rfl
@[go_sem] theorem ta_30 : tkArr Tryz.prog 30 = none := by kernel_rfl
@[go_sem] theorem tb_30 : tkBytes Tryz.prog 30 = some 8 := by kernel_rfl
@[go_sem] theorem tn_30 : notInt Tryz.prog 30 = false := by kernel_rfl
@[go_sem] theorem tz_30 : tkZero Tryz.prog 30 = some [.int .i64 0] := by kernel_rfl
attribute [go_sem] Tryz.underlying42
@[go_sem] theorem tk_42 : tk Tryz.prog 42 = some (1, false) := by kernel_rfl
@[go_sem] theorem tp_42 : tkPlaces Tryz.prog 42 = none := by kernel_rfl
@[go_sem] theorem ta_42 : tkArr Tryz.prog 42 = none := by kernel_rfl
@[go_sem] theorem tb_42 : tkBytes Tryz.prog 42 = some 8 := by kernel_rfl
@[go_sem] theorem tn_42 : notInt Tryz.prog 42 = true := by kernel_rfl
@[go_sem] theorem tz_42 : tkZero Tryz.prog 42 = some [.pointer none] := by kernel_rfl
attribute [go_sem] Tryz.underlying43
@[go_sem] theorem tk_43 : tk Tryz.prog 43 = some (1, false) := by kernel_rfl
@[go_sem] theorem tp_43 : tkPlaces Tryz.prog 43 = none := by kernel_rfl
@[go_sem] theorem ta_43 : tkArr Tryz.prog 43 = none := by kernel_rfl
@[go_sem] theorem tb_43 : tkBytes Tryz.prog 43 = some 8 := by kernel_rfl
@[go_sem] theorem tn_43 : notInt Tryz.prog 43 = true := by kernel_rfl
@[go_sem] theorem tz_43 : tkZero Tryz.prog 43 = some [.pointer none] := by kernel_rfl
attribute [go_sem] Tryz.underlying46
@[go_sem] theorem tk_46 : tk Tryz.prog 46 = some (1, false) := by kernel_rfl
@[go_sem] theorem tp_46 : tkPlaces Tryz.prog 46 = none := by kernel_rfl
@[go_sem] theorem ta_46 : tkArr Tryz.prog 46 = none := by kernel_rfl
@[go_sem] theorem te_46 : tkElem Tryz.prog 46 = some (2, true) := by kernel_rfl
@[go_sem] theorem tb_46 : tkBytes Tryz.prog 46 = some 24 := by kernel_rfl
@[go_sem] theorem tn_46 : notInt Tryz.prog 46 = true := by kernel_rfl
@[go_sem] theorem tz_46 : tkZero Tryz.prog 46 = some [.slice none 0 0] := by kernel_rfl
attribute [go_sem] Tryz.underlying47
@[go_sem] theorem tk_47 : tk Tryz.prog 47 = some (1, false) := by kernel_rfl
@[go_sem] theorem tp_47 : tkPlaces Tryz.prog 47 = none := by kernel_rfl
@[go_sem] theorem ta_47 : tkArr Tryz.prog 47 = none := by kernel_rfl
@[go_sem] theorem te_47 : tkElem Tryz.prog 47 = some (3, true) := by kernel_rfl
@[go_sem] theorem tb_47 : tkBytes Tryz.prog 47 = some 24 := by kernel_rfl
@[go_sem] theorem tn_47 : notInt Tryz.prog 47 = true := by kernel_rfl
@[go_sem] theorem tz_47 : tkZero Tryz.prog 47 = some [.slice none 0 0] := by kernel_rfl
attribute [go_sem] Tryz.underlying49
@[go_sem] theorem tk_49 : tk Tryz.prog 49 = some (6, true) := by kernel_rfl
@[go_sem] theorem tf_49_0 : tkField Tryz.prog 49 0 = some (0, 1, false) := by kernel_rfl
@[go_sem] theorem tf_49_1 : tkField Tryz.prog 49 1 = some (1, 1, false) := by kernel_rfl
@[go_sem] theorem tf_49_2 : tkField Tryz.prog 49 2 = some (2, 1, false) := by kernel_rfl
@[go_sem] theorem tf_49_3 : tkField Tryz.prog 49 3 = some (3, 1, false) := by kernel_rfl
@[go_sem] theorem tf_49_4 : tkField Tryz.prog 49 4 = some (4, 1, false) := by kernel_rfl
@[go_sem] theorem tf_49_5 : tkField Tryz.prog 49 5 = some (5, 1, false) := by kernel_rfl
@[go_sem] theorem tp_49 : tkPlaces Tryz.prog 49 = some [(0, 1), (1, 1), (2, 1), (3, 1), (4, 1), (5, 1)] := by kernel_rfl
@[go_sem] theorem ta_49 : tkArr Tryz.prog 49 = none := by kernel_rfl
@[go_sem] theorem tb_49 : tkBytes Tryz.prog 49 = some 80 := by kernel_rfl
@[go_sem] theorem tn_49 : notInt Tryz.prog 49 = true := by kernel_rfl
@[go_sem] theorem tz_49 : tkZero Tryz.prog 49 = some [.int .i64 0, .slice none 0 0, .slice none 0 0, .int .i64 0, .bool false, .int .i64 0] := by kernel_rfl
attribute [go_sem] Tryz.underlying51
@[go_sem] theorem tk_51 : tk Tryz.prog 51 = some (7, true) := by kernel_rfl
@[go_sem] theorem tf_51_0 : tkField Tryz.prog 51 0 = some (0, 6, true) := by kernel_rfl
@[go_sem] theorem tf_51_1 : tkField Tryz.prog 51 1 = some (6, 1, false) := by kernel_rfl
@[go_sem] theorem tp_51 : tkPlaces Tryz.prog 51 = some [(0, 6), (6, 1)] := by kernel_rfl
@[go_sem] theorem ta_51 : tkArr Tryz.prog 51 = none := by kernel_rfl
@[go_sem] theorem tb_51 : tkBytes Tryz.prog 51 = some 88 := by kernel_rfl
@[go_sem] theorem tn_51 : notInt Tryz.prog 51 = true := by kernel_rfl
@[go_sem] theorem tz_51 : tkZero Tryz.prog 51 = some [.int .i64 0, .slice none 0 0, .slice none 0 0, .int .i64 0, .bool false, .int .i64 0, .int .i64 0] := by kernel_rfl
attribute [go_sem] Tryz.underlying56
@[go_sem] theorem tk_56 : tk Tryz.prog 56 = some (1, false) := by kernel_rfl
@[go_sem] theorem tp_56 : tkPlaces Tryz.prog 56 = none := by kernel_rfl
@[go_sem] theorem ta_56 : tkArr Tryz.prog 56 = none := by kernel_rfl
@[go_sem] theorem te_56 : tkElem Tryz.prog 56 = some (1, false) := by kernel_rfl
@[go_sem] theorem tb_56 : tkBytes Tryz.prog 56 = some 24 := by kernel_rfl
@[go_sem] theorem tn_56 : notInt Tryz.prog 56 = true := by kernel_rfl
@[go_sem] theorem tz_56 : tkZero Tryz.prog 56 = some [.slice none 0 0] := by kernel_rfl
attribute [go_sem] Tryz.underlying68
@[go_sem] theorem tk_68 : tk Tryz.prog 68 = some (1, false) := by kernel_rfl
@[go_sem] theorem tp_68 : tkPlaces Tryz.prog 68 = none := by kernel_rfl
@[go_sem] theorem ta_68 : tkArr Tryz.prog 68 = none := by kernel_rfl
@[go_sem] theorem te_68 : tkElem Tryz.prog 68 = some (8, true) := by kernel_rfl
@[go_sem] theorem tb_68 : tkBytes Tryz.prog 68 = some 24 := by kernel_rfl
@[go_sem] theorem tn_68 : notInt Tryz.prog 68 = true := by kernel_rfl
@[go_sem] theorem tz_68 : tkZero Tryz.prog 68 = some [.slice none 0 0] := by kernel_rfl
attribute [go_sem] Tryz.underlying70
@[go_sem] theorem tk_70 : tk Tryz.prog 70 = some (1, false) := by kernel_rfl
@[go_sem] theorem tp_70 : tkPlaces Tryz.prog 70 = none := by kernel_rfl
@[go_sem] theorem ta_70 : tkArr Tryz.prog 70 = none := by kernel_rfl
@[go_sem] theorem tb_70 : tkBytes Tryz.prog 70 = some 8 := by kernel_rfl
@[go_sem] theorem tn_70 : notInt Tryz.prog 70 = true := by kernel_rfl
@[go_sem] theorem tz_70 : tkZero Tryz.prog 70 = some [.pointer none] := by kernel_rfl
attribute [go_sem] Tryz.underlying74
@[go_sem] theorem tk_74 : tk Tryz.prog 74 = some (9, true) := by kernel_rfl
@[go_sem] theorem tf_74_0 : tkField Tryz.prog 74 0 = some (0, 7, true) := by kernel_rfl
@[go_sem] theorem tf_74_1 : tkField Tryz.prog 74 1 = some (7, 1, false) := by kernel_rfl
@[go_sem] theorem tf_74_2 : tkField Tryz.prog 74 2 = some (8, 1, false) := by kernel_rfl
@[go_sem] theorem tp_74 : tkPlaces Tryz.prog 74 = some [(0, 7), (7, 1), (8, 1)] := by kernel_rfl
@[go_sem] theorem ta_74 : tkArr Tryz.prog 74 = none := by kernel_rfl
@[go_sem] theorem tb_74 : tkBytes Tryz.prog 74 = some 104 := by kernel_rfl
@[go_sem] theorem tn_74 : notInt Tryz.prog 74 = true := by kernel_rfl
@[go_sem] theorem tz_74 : tkZero Tryz.prog 74 = some [.int .i64 0, .slice none 0 0, .slice none 0 0, .int .i64 0, .bool false, .int .i64 0, .int .i64 0, .int .i64 0, .int .i64 0] := by kernel_rfl
attribute [go_sem] Tryz.underlying78
@[go_sem] theorem tk_78 : tk Tryz.prog 78 = some (5, true) := by kernel_rfl
@[go_sem] theorem tf_78_0 : tkField Tryz.prog 78 0 = some (0, 1, false) := by kernel_rfl
@[go_sem] theorem tf_78_1 : tkField Tryz.prog 78 1 = some (1, 1, false) := by kernel_rfl
@[go_sem] theorem tf_78_2 : tkField Tryz.prog 78 2 = some (2, 1, false) := by kernel_rfl
@[go_sem] theorem tf_78_3 : tkField Tryz.prog 78 3 = some (3, 1, false) := by kernel_rfl
@[go_sem] theorem tf_78_4 : tkField Tryz.prog 78 4 = some (4, 1, false) := by kernel_rfl
@[go_sem] theorem tp_78 : tkPlaces Tryz.prog 78 = some [(0, 1), (1, 1), (2, 1), (3, 1), (4, 1)] := by kernel_rfl
@[go_sem] theorem ta_78 : tkArr Tryz.prog 78 = none := by kernel_rfl
@[go_sem] theorem tb_78 : tkBytes Tryz.prog 78 = some 64 := by kernel_rfl
@[go_sem] theorem tn_78 : notInt Tryz.prog 78 = true := by kernel_rfl
@[go_sem] theorem tz_78 : tkZero Tryz.prog 78 = some [.string ⟨#[]⟩, .int .i64 0, .int .i64 0, .int .i64 0, .slice none 0 0] := by kernel_rfl
attribute [go_sem] Tryz.underlying80
@[go_sem] theorem tk_80 : tk Tryz.prog 80 = some (8, true) := by kernel_rfl
@[go_sem] theorem tf_80_0 : tkField Tryz.prog 80 0 = some (0, 1, false) := by kernel_rfl
@[go_sem] theorem tf_80_1 : tkField Tryz.prog 80 1 = some (1, 5, true) := by kernel_rfl
@[go_sem] theorem tf_80_2 : tkField Tryz.prog 80 2 = some (6, 1, false) := by kernel_rfl
@[go_sem] theorem tf_80_3 : tkField Tryz.prog 80 3 = some (7, 1, false) := by kernel_rfl
@[go_sem] theorem tp_80 : tkPlaces Tryz.prog 80 = some [(0, 1), (1, 5), (6, 1), (7, 1)] := by kernel_rfl
@[go_sem] theorem ta_80 : tkArr Tryz.prog 80 = none := by kernel_rfl
@[go_sem] theorem tb_80 : tkBytes Tryz.prog 80 = some 104 := by kernel_rfl
@[go_sem] theorem tn_80 : notInt Tryz.prog 80 = true := by kernel_rfl
@[go_sem] theorem tz_80 : tkZero Tryz.prog 80 = some [.int .i64 0, .string ⟨#[]⟩, .int .i64 0, .int .i64 0, .int .i64 0, .slice none 0 0, .int .i64 0, .slice none 0 0] := by kernel_rfl
attribute [go_sem] Tryz.underlying85
@[go_sem] theorem tk_85 : tk Tryz.prog 85 = some (1, false) := by kernel_rfl
@[go_sem] theorem tp_85 : tkPlaces Tryz.prog 85 = none := by kernel_rfl
@[go_sem] theorem ta_85 : tkArr Tryz.prog 85 = none := by kernel_rfl
@[go_sem] theorem te_85 : tkElem Tryz.prog 85 = some (5, true) := by kernel_rfl
@[go_sem] theorem tb_85 : tkBytes Tryz.prog 85 = some 24 := by kernel_rfl
@[go_sem] theorem tn_85 : notInt Tryz.prog 85 = true := by kernel_rfl
@[go_sem] theorem tz_85 : tkZero Tryz.prog 85 = some [.slice none 0 0] := by kernel_rfl
attribute [go_sem] Tryz.underlying105
@[go_sem] theorem tk_105 : tk Tryz.prog 105 = some (2, true) := by kernel_rfl
@[go_sem] theorem tf_105_0 : tkField Tryz.prog 105 0 = some (0, 1, false) := by kernel_rfl
@[go_sem] theorem tf_105_1 : tkField Tryz.prog 105 1 = some (1, 1, false) := by kernel_rfl
@[go_sem] theorem tp_105 : tkPlaces Tryz.prog 105 = some [(0, 1), (1, 1)] := by kernel_rfl
@[go_sem] theorem ta_105 : tkArr Tryz.prog 105 = none := by kernel_rfl
@[go_sem] theorem tb_105 : tkBytes Tryz.prog 105 = some 16 := by kernel_rfl
@[go_sem] theorem tn_105 : notInt Tryz.prog 105 = true := by kernel_rfl
@[go_sem] theorem tz_105 : tkZero Tryz.prog 105 = some [.pointer none, .int .i64 0] := by kernel_rfl
attribute [go_sem] Tryz.underlying108
@[go_sem] theorem tk_108 : tk Tryz.prog 108 = some (1, false) := by kernel_rfl
@[go_sem] theorem tp_108 : tkPlaces Tryz.prog 108 = none := by kernel_rfl
@[go_sem] theorem ta_108 : tkArr Tryz.prog 108 = none := by kernel_rfl
@[go_sem] theorem tb_108 : tkBytes Tryz.prog 108 = some 8 := by kernel_rfl
@[go_sem] theorem tn_108 : notInt Tryz.prog 108 = false := by kernel_rfl
@[go_sem] theorem tz_108 : tkZero Tryz.prog 108 = some [.int .u64 0] := by kernel_rfl
attribute [go_sem] Tryz.underlying110
@[go_sem] theorem tk_110 : tk Tryz.prog 110 = some (3, true) := by kernel_rfl
@[go_sem] theorem tf_110_0 : tkField Tryz.prog 110 0 = some (0, 1, false) := by kernel_rfl
@[go_sem] theorem tf_110_1 : tkField Tryz.prog 110 1 = some (1, 1, false) := by kernel_rfl
@[go_sem] theorem tf_110_2 : tkField Tryz.prog 110 2 = some (2, 1, false) := by kernel_rfl
@[go_sem] theorem tp_110 : tkPlaces Tryz.prog 110 = some [(0, 1), (1, 1), (2, 1)] := by kernel_rfl
@[go_sem] theorem ta_110 : tkArr Tryz.prog 110 = none := by kernel_rfl
@[go_sem] theorem tb_110 : tkBytes Tryz.prog 110 = some 24 := by kernel_rfl
@[go_sem] theorem tn_110 : notInt Tryz.prog 110 = true := by kernel_rfl
@[go_sem] theorem tz_110 : tkZero Tryz.prog 110 = some [.int .u64 0, .int .i64 0, .int .i64 0] := by kernel_rfl
attribute [go_sem] Tryz.underlying111
@[go_sem] theorem tk_111 : tk Tryz.prog 111 = some (1, false) := by kernel_rfl
@[go_sem] theorem tp_111 : tkPlaces Tryz.prog 111 = none := by kernel_rfl
@[go_sem] theorem ta_111 : tkArr Tryz.prog 111 = none := by kernel_rfl
@[go_sem] theorem tb_111 : tkBytes Tryz.prog 111 = some 8 := by kernel_rfl
@[go_sem] theorem tn_111 : notInt Tryz.prog 111 = true := by kernel_rfl
@[go_sem] theorem tz_111 : tkZero Tryz.prog 111 = some [.pointer none] := by kernel_rfl
attribute [go_sem] Tryz.underlying117
@[go_sem] theorem tk_117 : tk Tryz.prog 117 = some (3, true) := by kernel_rfl
@[go_sem] theorem tf_117_0 : tkField Tryz.prog 117 0 = some (0, 1, false) := by kernel_rfl
@[go_sem] theorem tf_117_1 : tkField Tryz.prog 117 1 = some (1, 1, false) := by kernel_rfl
@[go_sem] theorem tf_117_2 : tkField Tryz.prog 117 2 = some (2, 1, false) := by kernel_rfl
@[go_sem] theorem tp_117 : tkPlaces Tryz.prog 117 = some [(0, 1), (1, 1), (2, 1)] := by kernel_rfl
@[go_sem] theorem ta_117 : tkArr Tryz.prog 117 = none := by kernel_rfl
@[go_sem] theorem tb_117 : tkBytes Tryz.prog 117 = some 40 := by kernel_rfl
@[go_sem] theorem tn_117 : notInt Tryz.prog 117 = true := by kernel_rfl
@[go_sem] theorem tz_117 : tkZero Tryz.prog 117 = some [.slice none 0 0, .int .i64 0, .int .i64 0] := by kernel_rfl
attribute [go_sem] Tryz.underlying123
@[go_sem] theorem tk_123 : tk Tryz.prog 123 = some (1, false) := by kernel_rfl
@[go_sem] theorem tp_123 : tkPlaces Tryz.prog 123 = none := by kernel_rfl
@[go_sem] theorem ta_123 : tkArr Tryz.prog 123 = none := by kernel_rfl
@[go_sem] theorem tb_123 : tkBytes Tryz.prog 123 = some 8 := by kernel_rfl
@[go_sem] theorem tn_123 : notInt Tryz.prog 123 = true := by kernel_rfl
@[go_sem] theorem tz_123 : tkZero Tryz.prog 123 = some [.pointer none] := by kernel_rfl
attribute [go_sem] Tryz.underlying125
@[go_sem] theorem tk_125 : tk Tryz.prog 125 = some (1, false) := by kernel_rfl
@[go_sem] theorem tp_125 : tkPlaces Tryz.prog 125 = none := by kernel_rfl
@[go_sem] theorem ta_125 : tkArr Tryz.prog 125 = none := by kernel_rfl
@[go_sem] theorem tb_125 : tkBytes Tryz.prog 125 = some 8 := by kernel_rfl
@[go_sem] theorem tn_125 : notInt Tryz.prog 125 = true := by kernel_rfl
@[go_sem] theorem tz_125 : tkZero Tryz.prog 125 = some [.pointer none] := by kernel_rfl
attribute [go_sem] Tryz.underlying127
@[go_sem] theorem tk_127 : tk Tryz.prog 127 = some (4, true) := by kernel_rfl
@[go_sem] theorem tf_127_0 : tkField Tryz.prog 127 0 = some (0, 1, false) := by kernel_rfl
@[go_sem] theorem tf_127_1 : tkField Tryz.prog 127 1 = some (1, 1, false) := by kernel_rfl
@[go_sem] theorem tf_127_2 : tkField Tryz.prog 127 2 = some (2, 1, false) := by kernel_rfl
@[go_sem] theorem tf_127_3 : tkField Tryz.prog 127 3 = some (3, 1, false) := by kernel_rfl
@[go_sem] theorem tp_127 : tkPlaces Tryz.prog 127 = some [(0, 1), (1, 1), (2, 1), (3, 1)] := by kernel_rfl
@[go_sem] theorem ta_127 : tkArr Tryz.prog 127 = none := by kernel_rfl
@[go_sem] theorem tb_127 : tkBytes Tryz.prog 127 = some 48 := by kernel_rfl
@[go_sem] theorem tn_127 : notInt Tryz.prog 127 = true := by kernel_rfl
@[go_sem] theorem tz_127 : tkZero Tryz.prog 127 = some [.string ⟨#[]⟩, .int .i64 0, .int .i64 0, .nilIface] := by kernel_rfl
attribute [go_sem] Tryz.underlying137
@[go_sem] theorem tk_137 : tk Tryz.prog 137 = some (2, true) := by kernel_rfl
@[go_sem] theorem tf_137_0 : tkField Tryz.prog 137 0 = some (0, 1, false) := by kernel_rfl
@[go_sem] theorem tf_137_1 : tkField Tryz.prog 137 1 = some (1, 1, false) := by kernel_rfl
@[go_sem] theorem tp_137 : tkPlaces Tryz.prog 137 = some [(0, 1), (1, 1)] := by kernel_rfl
@[go_sem] theorem ta_137 : tkArr Tryz.prog 137 = none := by kernel_rfl
@[go_sem] theorem tb_137 : tkBytes Tryz.prog 137 = some 32 := by kernel_rfl
@[go_sem] theorem tn_137 : notInt Tryz.prog 137 = true := by kernel_rfl
@[go_sem] theorem tz_137 : tkZero Tryz.prog 137 = some [.int .i64 0, .slice none 0 0] := by kernel_rfl
attribute [go_sem] Tryz.underlying142
@[go_sem] theorem tk_142 : tk Tryz.prog 142 = some (1, true) := by kernel_rfl
@[go_sem] theorem tf_142_0 : tkField Tryz.prog 142 0 = some (0, 1, false) := by kernel_rfl
@[go_sem] theorem tp_142 : tkPlaces Tryz.prog 142 = some [(0, 1)] := by kernel_rfl
@[go_sem] theorem ta_142 : tkArr Tryz.prog 142 = none := by kernel_rfl
@[go_sem] theorem tb_142 : tkBytes Tryz.prog 142 = some 16 := by kernel_rfl
@[go_sem] theorem tn_142 : notInt Tryz.prog 142 = true := by kernel_rfl
@[go_sem] theorem tz_142 : tkZero Tryz.prog 142 = some [.nilIface] := by kernel_rfl
attribute [go_sem] Tryz.underlying152
@[go_sem] theorem tk_152 : tk Tryz.prog 152 = some (1, false) := by kernel_rfl
@[go_sem] theorem tp_152 : tkPlaces Tryz.prog 152 = none := by kernel_rfl
@[go_sem] theorem ta_152 : tkArr Tryz.prog 152 = none := by kernel_rfl
@[go_sem] theorem tb_152 : tkBytes Tryz.prog 152 = some 8 := by kernel_rfl
@[go_sem] theorem tn_152 : notInt Tryz.prog 152 = true := by kernel_rfl
@[go_sem] theorem tz_152 : tkZero Tryz.prog 152 = some [.map none] := by kernel_rfl
attribute [go_sem] Tryz.underlying153
@[go_sem] theorem tk_153 : tk Tryz.prog 153 = some (1, false) := by kernel_rfl
@[go_sem] theorem tp_153 : tkPlaces Tryz.prog 153 = none := by kernel_rfl
@[go_sem] theorem ta_153 : tkArr Tryz.prog 153 = none := by kernel_rfl
@[go_sem] theorem te_153 : tkElem Tryz.prog 153 = some (2, true) := by kernel_rfl
@[go_sem] theorem tb_153 : tkBytes Tryz.prog 153 = some 24 := by kernel_rfl
@[go_sem] theorem tn_153 : notInt Tryz.prog 153 = true := by kernel_rfl
@[go_sem] theorem tz_153 : tkZero Tryz.prog 153 = some [.slice none 0 0] := by kernel_rfl
attribute [go_sem] Tryz.underlying155
@[go_sem] theorem tk_155 : tk Tryz.prog 155 = some (6, true) := by kernel_rfl
@[go_sem] theorem tf_155_0 : tkField Tryz.prog 155 0 = some (0, 1, false) := by kernel_rfl
@[go_sem] theorem tf_155_1 : tkField Tryz.prog 155 1 = some (1, 1, false) := by kernel_rfl
@[go_sem] theorem tf_155_2 : tkField Tryz.prog 155 2 = some (2, 1, false) := by kernel_rfl
@[go_sem] theorem tf_155_3 : tkField Tryz.prog 155 3 = some (3, 1, false) := by kernel_rfl
@[go_sem] theorem tf_155_4 : tkField Tryz.prog 155 4 = some (4, 1, false) := by kernel_rfl
@[go_sem] theorem tf_155_5 : tkField Tryz.prog 155 5 = some (5, 1, false) := by kernel_rfl
@[go_sem] theorem tp_155 : tkPlaces Tryz.prog 155 = some [(0, 1), (1, 1), (2, 1), (3, 1), (4, 1), (5, 1)] := by kernel_rfl
@[go_sem] theorem ta_155 : tkArr Tryz.prog 155 = none := by kernel_rfl
@[go_sem] theorem tb_155 : tkBytes Tryz.prog 155 = some 64 := by kernel_rfl
@[go_sem] theorem tn_155 : notInt Tryz.prog 155 = true := by kernel_rfl
@[go_sem] theorem tz_155 : tkZero Tryz.prog 155 = some [.int .i64 0, .map none, .slice none 0 0, .int .i64 0, .bool false, .int .i64 0] := by kernel_rfl
attribute [go_sem] Tryz.underlying157
@[go_sem] theorem tk_157 : tk Tryz.prog 157 = some (2, true) := by kernel_rfl
@[go_sem] theorem tf_157_0 : tkField Tryz.prog 157 0 = some (0, 1, false) := by kernel_rfl
@[go_sem] theorem tf_157_1 : tkField Tryz.prog 157 1 = some (1, 1, false) := by kernel_rfl
@[go_sem] theorem tp_157 : tkPlaces Tryz.prog 157 = some [(0, 1), (1, 1)] := by kernel_rfl
@[go_sem] theorem ta_157 : tkArr Tryz.prog 157 = none := by kernel_rfl
@[go_sem] theorem tb_157 : tkBytes Tryz.prog 157 = some 32 := by kernel_rfl
@[go_sem] theorem tn_157 : notInt Tryz.prog 157 = true := by kernel_rfl
@[go_sem] theorem tz_157 : tkZero Tryz.prog 157 = some [.int .i64 0, .slice none 0 0] := by kernel_rfl
attribute [go_sem] Tryz.underlying176
@[go_sem] theorem tk_176 : tk Tryz.prog 176 = some (1, false) := by kernel_rfl
@[go_sem] theorem tp_176 : tkPlaces Tryz.prog 176 = none := by kernel_rfl
@[go_sem] theorem ta_176 : tkArr Tryz.prog 176 = none := by kernel_rfl
@[go_sem] theorem te_176 : tkElem Tryz.prog 176 = some (2, true) := by kernel_rfl
@[go_sem] theorem tb_176 : tkBytes Tryz.prog 176 = some 24 := by kernel_rfl
@[go_sem] theorem tn_176 : notInt Tryz.prog 176 = true := by kernel_rfl
@[go_sem] theorem tz_176 : tkZero Tryz.prog 176 = some [.slice none 0 0] := by kernel_rfl
attribute [go_sem] Tryz.underlying178
@[go_sem] theorem tk_178 : tk Tryz.prog 178 = some (3, true) := by kernel_rfl
@[go_sem] theorem tf_178_0 : tkField Tryz.prog 178 0 = some (0, 1, false) := by kernel_rfl
@[go_sem] theorem tf_178_1 : tkField Tryz.prog 178 1 = some (1, 1, false) := by kernel_rfl
@[go_sem] theorem tf_178_2 : tkField Tryz.prog 178 2 = some (2, 1, false) := by kernel_rfl
@[go_sem] theorem tp_178 : tkPlaces Tryz.prog 178 = some [(0, 1), (1, 1), (2, 1)] := by kernel_rfl
@[go_sem] theorem ta_178 : tkArr Tryz.prog 178 = none := by kernel_rfl
@[go_sem] theorem tb_178 : tkBytes Tryz.prog 178 = some 40 := by kernel_rfl
@[go_sem] theorem tn_178 : notInt Tryz.prog 178 = true := by kernel_rfl
@[go_sem] theorem tz_178 : tkZero Tryz.prog 178 = some [.pointer none, .int .i64 0, .slice none 0 0] := by kernel_rfl
attribute [go_sem] Tryz.underlying181
@[go_sem] theorem tk_181 : tk Tryz.prog 181 = some (2, true) := by kernel_rfl
@[go_sem] theorem tp_181 : tkPlaces Tryz.prog 181 = none := by kernel_rfl
@[go_sem] theorem ta_181 : tkArr Tryz.prog 181 = some 2 := by kernel_rfl
@[go_sem] theorem te_181 : tkElem Tryz.prog 181 = some (1, false) := by kernel_rfl
@[go_sem] theorem tb_181 : tkBytes Tryz.prog 181 = some 16 := by kernel_rfl
@[go_sem] theorem tn_181 : notInt Tryz.prog 181 = true := by kernel_rfl
@[go_sem] theorem tz_181 : tkZero Tryz.prog 181 = some [.int .u64 0, .int .u64 0] := by kernel_rfl
attribute [go_sem] Tryz.underlying188
@[go_sem] theorem tk_188 : tk Tryz.prog 188 = some (3, true) := by kernel_rfl
@[go_sem] theorem tf_188_0 : tkField Tryz.prog 188 0 = some (0, 1, false) := by kernel_rfl
@[go_sem] theorem tf_188_1 : tkField Tryz.prog 188 1 = some (1, 1, false) := by kernel_rfl
@[go_sem] theorem tf_188_2 : tkField Tryz.prog 188 2 = some (2, 1, false) := by kernel_rfl
@[go_sem] theorem tp_188 : tkPlaces Tryz.prog 188 = some [(0, 1), (1, 1), (2, 1)] := by kernel_rfl
@[go_sem] theorem ta_188 : tkArr Tryz.prog 188 = none := by kernel_rfl
@[go_sem] theorem tb_188 : tkBytes Tryz.prog 188 = some 40 := by kernel_rfl
@[go_sem] theorem tn_188 : notInt Tryz.prog 188 = true := by kernel_rfl
@[go_sem] theorem tz_188 : tkZero Tryz.prog 188 = some [.int .i64 0, .int .i64 0, .slice none 0 0] := by kernel_rfl
attribute [go_sem] Tryz.underlying194
@[go_sem] theorem tk_194 : tk Tryz.prog 194 = some (3, true) := by kernel_rfl
@[go_sem] theorem tf_194_0 : tkField Tryz.prog 194 0 = some (0, 1, false) := by kernel_rfl
@[go_sem] theorem tf_194_1 : tkField Tryz.prog 194 1 = some (1, 1, false) := by kernel_rfl
@[go_sem] theorem tf_194_2 : tkField Tryz.prog 194 2 = some (2, 1, false) := by kernel_rfl
@[go_sem] theorem tp_194 : tkPlaces Tryz.prog 194 = some [(0, 1), (1, 1), (2, 1)] := by kernel_rfl
@[go_sem] theorem ta_194 : tkArr Tryz.prog 194 = none := by kernel_rfl
@[go_sem] theorem tb_194 : tkBytes Tryz.prog 194 = some 40 := by kernel_rfl
@[go_sem] theorem tn_194 : notInt Tryz.prog 194 = true := by kernel_rfl
@[go_sem] theorem tz_194 : tkZero Tryz.prog 194 = some [.slice none 0 0, .int .i64 0, .int .i64 0] := by kernel_rfl
attribute [go_sem] Tryz.underlying198
@[go_sem] theorem tk_198 : tk Tryz.prog 198 = some (1, false) := by kernel_rfl
@[go_sem] theorem tp_198 : tkPlaces Tryz.prog 198 = none := by kernel_rfl
@[go_sem] theorem ta_198 : tkArr Tryz.prog 198 = none := by kernel_rfl
@[go_sem] theorem tb_198 : tkBytes Tryz.prog 198 = some 8 := by kernel_rfl
@[go_sem] theorem tn_198 : notInt Tryz.prog 198 = true := by kernel_rfl
@[go_sem] theorem tz_198 : tkZero Tryz.prog 198 = some [.pointer none] := by kernel_rfl
attribute [go_sem] Tryz.underlying199
@[go_sem] theorem tk_199 : tk Tryz.prog 199 = some (1, false) := by kernel_rfl
@[go_sem] theorem tp_199 : tkPlaces Tryz.prog 199 = none := by kernel_rfl
@[go_sem] theorem ta_199 : tkArr Tryz.prog 199 = none := by kernel_rfl
@[go_sem] theorem tb_199 : tkBytes Tryz.prog 199 = some 8 := by kernel_rfl
@[go_sem] theorem tn_199 : notInt Tryz.prog 199 = false := by kernel_rfl
@[go_sem] theorem tz_199 : tkZero Tryz.prog 199 = some [.int .u64 0] := by kernel_rfl
attribute [go_sem] Tryz.underlying201
@[go_sem] theorem tk_201 : tk Tryz.prog 201 = some (3, true) := by kernel_rfl
@[go_sem] theorem tf_201_0 : tkField Tryz.prog 201 0 = some (0, 1, false) := by kernel_rfl
@[go_sem] theorem tf_201_1 : tkField Tryz.prog 201 1 = some (1, 1, false) := by kernel_rfl
@[go_sem] theorem tf_201_2 : tkField Tryz.prog 201 2 = some (2, 1, false) := by kernel_rfl
@[go_sem] theorem tp_201 : tkPlaces Tryz.prog 201 = some [(0, 1), (1, 1), (2, 1)] := by kernel_rfl
@[go_sem] theorem ta_201 : tkArr Tryz.prog 201 = none := by kernel_rfl
@[go_sem] theorem tb_201 : tkBytes Tryz.prog 201 = some 24 := by kernel_rfl
@[go_sem] theorem tn_201 : notInt Tryz.prog 201 = true := by kernel_rfl
@[go_sem] theorem tz_201 : tkZero Tryz.prog 201 = some [.pointer none, .pointer none, .int .u64 0] := by kernel_rfl
attribute [go_sem] Tryz.underlying204
@[go_sem] theorem tk_204 : tk Tryz.prog 204 = some (1, false) := by kernel_rfl
@[go_sem] theorem tp_204 : tkPlaces Tryz.prog 204 = none := by kernel_rfl
@[go_sem] theorem ta_204 : tkArr Tryz.prog 204 = none := by kernel_rfl
@[go_sem] theorem tb_204 : tkBytes Tryz.prog 204 = some 16 := by kernel_rfl
@[go_sem] theorem tn_204 : notInt Tryz.prog 204 = true := by kernel_rfl
@[go_sem] theorem tz_204 : tkZero Tryz.prog 204 = some [.nilIface] := by kernel_rfl
attribute [go_sem] Tryz.underlying206
@[go_sem] theorem tk_206 : tk Tryz.prog 206 = some (1, false) := by kernel_rfl
@[go_sem] theorem tp_206 : tkPlaces Tryz.prog 206 = none := by kernel_rfl
@[go_sem] theorem ta_206 : tkArr Tryz.prog 206 = none := by kernel_rfl
@[go_sem] theorem tb_206 : tkBytes Tryz.prog 206 = some 1 := by kernel_rfl
@[go_sem] theorem tn_206 : notInt Tryz.prog 206 = false := by kernel_rfl
@[go_sem] theorem tz_206 : tkZero Tryz.prog 206 = some [.int .u8 0] := by kernel_rfl
attribute [go_sem] Tryz.underlying218
@[go_sem] theorem tk_218 : tk Tryz.prog 218 = some (3, true) := by kernel_rfl
@[go_sem] theorem tf_218_0 : tkField Tryz.prog 218 0 = some (0, 1, false) := by kernel_rfl
@[go_sem] theorem tf_218_1 : tkField Tryz.prog 218 1 = some (1, 1, false) := by kernel_rfl
@[go_sem] theorem tf_218_2 : tkField Tryz.prog 218 2 = some (2, 1, false) := by kernel_rfl
@[go_sem] theorem tp_218 : tkPlaces Tryz.prog 218 = some [(0, 1), (1, 1), (2, 1)] := by kernel_rfl
@[go_sem] theorem ta_218 : tkArr Tryz.prog 218 = none := by kernel_rfl
@[go_sem] theorem tb_218 : tkBytes Tryz.prog 218 = some 40 := by kernel_rfl
@[go_sem] theorem tn_218 : notInt Tryz.prog 218 = true := by kernel_rfl
@[go_sem] theorem tz_218 : tkZero Tryz.prog 218 = some [.int .i64 0, .slice none 0 0, .bool false] := by kernel_rfl
attribute [go_sem] Tryz.underlying228
@[go_sem] theorem tk_228 : tk Tryz.prog 228 = some (1, false) := by kernel_rfl
@[go_sem] theorem tp_228 : tkPlaces Tryz.prog 228 = none := by kernel_rfl
@[go_sem] theorem ta_228 : tkArr Tryz.prog 228 = none := by kernel_rfl
@[go_sem] theorem tb_228 : tkBytes Tryz.prog 228 = some 8 := by kernel_rfl
@[go_sem] theorem tn_228 : notInt Tryz.prog 228 = true := by kernel_rfl
@[go_sem] theorem tz_228 : tkZero Tryz.prog 228 = some [.nilFunc] := by kernel_rfl
attribute [go_sem] Tryz.underlying241
@[go_sem] theorem tk_241 : tk Tryz.prog 241 = some (1, false) := by kernel_rfl
@[go_sem] theorem tp_241 : tkPlaces Tryz.prog 241 = none := by kernel_rfl
@[go_sem] theorem ta_241 : tkArr Tryz.prog 241 = none := by kernel_rfl
@[go_sem] theorem te_241 : tkElem Tryz.prog 241 = some (1, false) := by kernel_rfl
@[go_sem] theorem tb_241 : tkBytes Tryz.prog 241 = some 24 := by kernel_rfl
@[go_sem] theorem tn_241 : notInt Tryz.prog 241 = true := by kernel_rfl
@[go_sem] theorem tz_241 : tkZero Tryz.prog 241 = some [.slice none 0 0] := by kernel_rfl
attribute [go_sem] Tryz.underlying243
@[go_sem] theorem tk_243 : tk Tryz.prog 243 = some (1, false) := by kernel_rfl
@[go_sem] theorem tp_243 : tkPlaces Tryz.prog 243 = none := by kernel_rfl
@[go_sem] theorem ta_243 : tkArr Tryz.prog 243 = none := by kernel_rfl
@[go_sem] theorem te_243 : tkElem Tryz.prog 243 = some (1, false) := by kernel_rfl
@[go_sem] theorem tb_243 : tkBytes Tryz.prog 243 = some 24 := by kernel_rfl
@[go_sem] theorem tn_243 : notInt Tryz.prog 243 = true := by kernel_rfl
@[go_sem] theorem tz_243 : tkZero Tryz.prog 243 = some [.slice none 0 0] := by kernel_rfl
attribute [go_sem] Tryz.underlying249
@[go_sem] theorem tk_249 : tk Tryz.prog 249 = some (1, false) := by kernel_rfl
@[go_sem] theorem tp_249 : tkPlaces Tryz.prog 249 = none := by kernel_rfl
@[go_sem] theorem ta_249 : tkArr Tryz.prog 249 = none := by kernel_rfl
@[go_sem] theorem tb_249 : tkBytes Tryz.prog 249 = some 8 := by kernel_rfl
@[go_sem] theorem tn_249 : notInt Tryz.prog 249 = true := by kernel_rfl
@[go_sem] theorem tz_249 : tkZero Tryz.prog 249 = some [.nilFunc] := by kernel_rfl
attribute [go_sem] Tryz.underlying270
@[go_sem] theorem tk_270 : tk Tryz.prog 270 = some (1, false) := by kernel_rfl
@[go_sem] theorem tp_270 : tkPlaces Tryz.prog 270 = none := by kernel_rfl
@[go_sem] theorem ta_270 : tkArr Tryz.prog 270 = none := by kernel_rfl
@[go_sem] theorem tb_270 : tkBytes Tryz.prog 270 = some 16 := by kernel_rfl
@[go_sem] theorem tn_270 : notInt Tryz.prog 270 = true := by kernel_rfl
@[go_sem] theorem tz_270 : tkZero Tryz.prog 270 = some [.nilIface] := by kernel_rfl
attribute [go_sem] Tryz.underlying271
@[go_sem] theorem tk_271 : tk Tryz.prog 271 = some (1, false) := by kernel_rfl
@[go_sem] theorem tp_271 : tkPlaces Tryz.prog 271 = none := by kernel_rfl
@[go_sem] theorem ta_271 : tkArr Tryz.prog 271 = none := by kernel_rfl
@[go_sem] theorem tb_271 : tkBytes Tryz.prog 271 = some 16 := by kernel_rfl
@[go_sem] theorem tn_271 : notInt Tryz.prog 271 = true := by kernel_rfl
@[go_sem] theorem tz_271 : tkZero Tryz.prog 271 = some [.nilIface] := by kernel_rfl
attribute [go_sem] Tryz.underlying272
@[go_sem] theorem tk_272 : tk Tryz.prog 272 = some (1, false) := by kernel_rfl
@[go_sem] theorem tp_272 : tkPlaces Tryz.prog 272 = none := by kernel_rfl
@[go_sem] theorem ta_272 : tkArr Tryz.prog 272 = none := by kernel_rfl
@[go_sem] theorem te_272 : tkElem Tryz.prog 272 = some (1, false) := by kernel_rfl
@[go_sem] theorem tb_272 : tkBytes Tryz.prog 272 = some 24 := by kernel_rfl
@[go_sem] theorem tn_272 : notInt Tryz.prog 272 = true := by kernel_rfl
@[go_sem] theorem tz_272 : tkZero Tryz.prog 272 = some [.slice none 0 0] := by kernel_rfl
attribute [go_sem] Tryz.underlying286
@[go_sem] theorem tk_286 : tk Tryz.prog 286 = some (1, false) := by kernel_rfl
@[go_sem] theorem tp_286 : tkPlaces Tryz.prog 286 = none := by kernel_rfl
@[go_sem] theorem ta_286 : tkArr Tryz.prog 286 = none := by kernel_rfl
@[go_sem] theorem tb_286 : tkBytes Tryz.prog 286 = some 8 := by kernel_rfl
@[go_sem] theorem tn_286 : notInt Tryz.prog 286 = true := by kernel_rfl
@[go_sem] theorem tz_286 : tkZero Tryz.prog 286 = some [.nilFunc] := by kernel_rfl
attribute [go_sem] Tryz.underlying293
@[go_sem] theorem tk_293 : tk Tryz.prog 293 = some (3, true) := by kernel_rfl
@[go_sem] theorem tp_293 : tkPlaces Tryz.prog 293 = none := by kernel_rfl
@[go_sem] theorem ta_293 : tkArr Tryz.prog 293 = some 3 := by kernel_rfl
@[go_sem] theorem te_293 : tkElem Tryz.prog 293 = some (1, false) := by kernel_rfl
@[go_sem] theorem tb_293 : tkBytes Tryz.prog 293 = some 24 := by kernel_rfl
@[go_sem] theorem tn_293 : notInt Tryz.prog 293 = true := by kernel_rfl
@[go_sem] theorem tz_293 : tkZero Tryz.prog 293 = some [.int .i64 0, .int .i64 0, .int .i64 0] := by kernel_rfl
attribute [go_sem] Tryz.underlying303
@[go_sem] theorem tk_303 : tk Tryz.prog 303 = some (1, true) := by kernel_rfl
@[go_sem] theorem tf_303_0 : tkField Tryz.prog 303 0 = some (0, 1, false) := by kernel_rfl
@[go_sem] theorem tp_303 : tkPlaces Tryz.prog 303 = some [(0, 1)] := by kernel_rfl
@[go_sem] theorem ta_303 : tkArr Tryz.prog 303 = none := by kernel_rfl
@[go_sem] theorem tb_303 : tkBytes Tryz.prog 303 = some 8 := by kernel_rfl
@[go_sem] theorem tn_303 : notInt Tryz.prog 303 = true := by kernel_rfl
@[go_sem] theorem tz_303 : tkZero Tryz.prog 303 = some [.int .i64 0] := by kernel_rfl
attribute [go_sem] Tryz.underlying314
@[go_sem] theorem tk_314 : tk Tryz.prog 314 = some (4, true) := by kernel_rfl
@[go_sem] theorem tp_314 : tkPlaces Tryz.prog 314 = none := by kernel_rfl
@[go_sem] theorem ta_314 : tkArr Tryz.prog 314 = some 4 := by kernel_rfl
@[go_sem] theorem te_314 : tkElem Tryz.prog 314 = some (1, false) := by kernel_rfl
@[go_sem] theorem tb_314 : tkBytes Tryz.prog 314 = some 4 := by kernel_rfl
@[go_sem] theorem tn_314 : notInt Tryz.prog 314 = true := by kernel_rfl
@[go_sem] theorem tz_314 : tkZero Tryz.prog 314 = some [.int .u8 0, .int .u8 0, .int .u8 0, .int .u8 0] := by kernel_rfl
attribute [go_sem] Tryz.underlying316
@[go_sem] theorem tk_316 : tk Tryz.prog 316 = some (1, false) := by kernel_rfl
@[go_sem] theorem tp_316 : tkPlaces Tryz.prog 316 = none := by kernel_rfl
@[go_sem] theorem ta_316 : tkArr Tryz.prog 316 = none := by kernel_rfl
@[go_sem] theorem tb_316 : tkBytes Tryz.prog 316 = some 4 := by kernel_rfl
@[go_sem] theorem tn_316 : notInt Tryz.prog 316 = false := by kernel_rfl
@[go_sem] theorem tz_316 : tkZero Tryz.prog 316 = some [.int .u32 0] := by kernel_rfl
attribute [go_sem] Tryz.underlying339
@[go_sem] theorem tk_339 : tk Tryz.prog 339 = some (1, false) := by kernel_rfl
@[go_sem] theorem tp_339 : tkPlaces Tryz.prog 339 = none := by kernel_rfl
@[go_sem] theorem ta_339 : tkArr Tryz.prog 339 = none := by kernel_rfl
@[go_sem] theorem tb_339 : tkBytes Tryz.prog 339 = some 16 := by kernel_rfl
@[go_sem] theorem tn_339 : notInt Tryz.prog 339 = true := by kernel_rfl
@[go_sem] theorem tz_339 : tkZero Tryz.prog 339 = some [.nilIface] := by kernel_rfl
end
end Go.Proofs.YtjppajaoekbkpaaGreatDoor
namespace Go.Proofs.YtjppajaoekbkpaaGreatDoor
open Go Go.Av
section
theorem cl_3 : callable Tryz.prog 3 = true := by kernel_rfl
@[go_sem] theorem rs_3 : Tryz.f3.results.toList = [.tmp 6] := by rfl
theorem cl_10 : callable Tryz.prog 10 = true := by kernel_rfl
@[go_sem] theorem rs_10 : Tryz.f10.results.toList = [.tmp 0] := by rfl
theorem cl_11 : callable Tryz.prog 11 = true := by kernel_rfl
@[go_sem] theorem rs_11 : Tryz.f11.results.toList = [.tmp 2, .tmp 3] := by rfl
theorem cl_12 : callable Tryz.prog 12 = true := by kernel_rfl
@[go_sem] theorem rs_12 : Tryz.f12.results.toList = [.tmp 2, .tmp 3] := by rfl
theorem cl_13 : callable Tryz.prog 13 = true := by kernel_rfl
@[go_sem] theorem rs_13 : Tryz.f13.results.toList = [.tmp 4] := by rfl
theorem cl_14 : callable Tryz.prog 14 = true := by kernel_rfl
@[go_sem] theorem rs_14 : Tryz.f14.results.toList = [.tmp 2] := by rfl
theorem cl_15 : callable Tryz.prog 15 = true := by kernel_rfl
@[go_sem] theorem rs_15 : Tryz.f15.results.toList = [.tmp 2] := by rfl
theorem cl_16 : callable Tryz.prog 16 = true := by kernel_rfl
@[go_sem] theorem rs_16 : Tryz.f16.results.toList = [.tmp 2] := by rfl
theorem cl_17 : callable Tryz.prog 17 = true := by kernel_rfl
@[go_sem] theorem rs_17 : Tryz.f17.results.toList = [.tmp 2] := by rfl
theorem cl_18 : callable Tryz.prog 18 = true := by kernel_rfl
@[go_sem] theorem rs_18 : Tryz.f18.results.toList = [.tmp 2] := by rfl
theorem cl_19 : callable Tryz.prog 19 = true := by kernel_rfl
@[go_sem] theorem rs_19 : Tryz.f19.results.toList = [.tmp 4] := by rfl
theorem cl_20 : callable Tryz.prog 20 = true := by kernel_rfl
@[go_sem] theorem rs_20 : Tryz.f20.results.toList = [.tmp 2] := by rfl
theorem cl_22 : callable Tryz.prog 22 = true := by kernel_rfl
@[go_sem] theorem rs_22 : Tryz.f22.results.toList = [.tmp 0, .tmp 1] := by rfl
@[go_sem] theorem rs_23 : Tryz.f23.results.toList = [.cell 2 51, .tmp 3] := by rfl
theorem cl_25 : callable Tryz.prog 25 = true := by kernel_rfl
@[go_sem] theorem rs_25 : Tryz.f25.results.toList = [.cell 8 22, .cell 9 27] := by rfl
@[go_sem] theorem rs_26 : Tryz.f26.results.toList = [.tmp 8, .tmp 9] := by rfl
theorem cl_27 : callable Tryz.prog 27 = true := by kernel_rfl
@[go_sem] theorem rs_27 : Tryz.f27.results.toList = [.tmp 10] := by rfl
@[go_sem] theorem rs_28 : Tryz.f28.results.toList = [] := by rfl
@[go_sem] theorem rs_29 : Tryz.f29.results.toList = [] := by rfl
theorem cl_30 : callable Tryz.prog 30 = true := by kernel_rfl
@[go_sem] theorem rs_30 : Tryz.f30.results.toList = [.tmp 2, .tmp 3] := by rfl
@[go_sem] theorem rs_31 : Tryz.f31.results.toList = [.tmp 2] := by rfl
@[go_sem] theorem rs_33 : Tryz.f33.results.toList = [.tmp 0, .tmp 1] := by rfl
@[go_sem] theorem rs_34 : Tryz.f34.results.toList = [.cell 6 74, .tmp 7] := by rfl
@[go_sem] theorem rs_36 : Tryz.f36.results.toList = [.tmp 6, .tmp 7] := by rfl
@[go_sem] theorem rs_37 : Tryz.f37.results.toList = [.tmp 2, .tmp 3] := by rfl
@[go_sem] theorem rs_38 : Tryz.f38.results.toList = [.tmp 4] := by rfl
@[go_sem] theorem rs_39 : Tryz.f39.results.toList = [.tmp 2] := by rfl
@[go_sem] theorem rs_40 : Tryz.f40.results.toList = [.tmp 2] := by rfl
@[go_sem] theorem rs_41 : Tryz.f41.results.toList = [.tmp 2] := by rfl
@[go_sem] theorem rs_42 : Tryz.f42.results.toList = [.tmp 4, .tmp 5] := by rfl
@[go_sem] theorem rs_43 : Tryz.f43.results.toList = [.cell 4 78, .tmp 5, .tmp 6] := by rfl
@[go_sem] theorem rs_44 : Tryz.f44.results.toList = [.tmp 4] := by rfl
@[go_sem] theorem rs_45 : Tryz.f45.results.toList = [.tmp 4] := by rfl
@[go_sem] theorem rs_47 : Tryz.f47.results.toList = [.tmp 4] := by rfl
@[go_sem] theorem rs_48 : Tryz.f48.results.toList = [.tmp 4] := by rfl
@[go_sem] theorem rs_49 : Tryz.f49.results.toList = [.tmp 4] := by rfl
theorem cl_50 : callable Tryz.prog 50 = true := by kernel_rfl
@[go_sem] theorem rs_50 : Tryz.f50.results.toList = [.tmp 2] := by rfl
theorem cl_51 : callable Tryz.prog 51 = true := by kernel_rfl
@[go_sem] theorem rs_51 : Tryz.f51.results.toList = [.tmp 4] := by rfl
theorem cl_52 : callable Tryz.prog 52 = true := by kernel_rfl
@[go_sem] theorem rs_52 : Tryz.f52.results.toList = [.tmp 2] := by rfl
theorem cl_53 : callable Tryz.prog 53 = true := by kernel_rfl
@[go_sem] theorem rs_53 : Tryz.f53.results.toList = [.tmp 2] := by rfl
theorem cl_54 : callable Tryz.prog 54 = true := by kernel_rfl
@[go_sem] theorem rs_54 : Tryz.f54.results.toList = [.tmp 2] := by rfl
theorem cl_55 : callable Tryz.prog 55 = true := by kernel_rfl
@[go_sem] theorem rs_55 : Tryz.f55.results.toList = [.tmp 6] := by rfl
theorem cl_56 : callable Tryz.prog 56 = true := by kernel_rfl
@[go_sem] theorem rs_56 : Tryz.f56.results.toList = [.tmp 2] := by rfl
theorem cl_57 : callable Tryz.prog 57 = true := by kernel_rfl
@[go_sem] theorem rs_57 : Tryz.f57.results.toList = [.cell 4 117, .tmp 5] := by rfl
theorem cl_58 : callable Tryz.prog 58 = true := by kernel_rfl
@[go_sem] theorem rs_58 : Tryz.f58.results.toList = [.cell 2 117, .tmp 3] := by rfl
theorem cl_59 : callable Tryz.prog 59 = true := by kernel_rfl
@[go_sem] theorem rs_59 : Tryz.f59.results.toList = [.tmp 2] := by rfl
theorem cl_60 : callable Tryz.prog 60 = true := by kernel_rfl
@[go_sem] theorem rs_60 : Tryz.f60.results.toList = [.tmp 4] := by rfl
theorem cl_61 : callable Tryz.prog 61 = true := by kernel_rfl
@[go_sem] theorem rs_61 : Tryz.f61.results.toList = [.tmp 4] := by rfl
theorem cl_62 : callable Tryz.prog 62 = true := by kernel_rfl
@[go_sem] theorem rs_62 : Tryz.f62.results.toList = [.tmp 4] := by rfl
theorem cl_63 : callable Tryz.prog 63 = true := by kernel_rfl
@[go_sem] theorem rs_63 : Tryz.f63.results.toList = [.tmp 4] := by rfl
theorem cl_64 : callable Tryz.prog 64 = true := by kernel_rfl
@[go_sem] theorem rs_64 : Tryz.f64.results.toList = [.tmp 4] := by rfl
theorem cl_65 : callable Tryz.prog 65 = true := by kernel_rfl
@[go_sem] theorem rs_65 : Tryz.f65.results.toList = [.tmp 2, .tmp 3] := by rfl
@[go_sem] theorem rs_66 : Tryz.f66.results.toList = [.tmp 2] := by rfl
@[go_sem] theorem rs_67 : Tryz.f67.results.toList = [.tmp 2, .tmp 3] := by rfl
@[go_sem] theorem rs_68 : Tryz.f68.results.toList = [.cell 4 49] := by rfl
@[go_sem] theorem rs_69 : Tryz.f69.results.toList = [.cell 10 51, .tmp 11] := by rfl
@[go_sem] theorem rs_70 : Tryz.f70.results.toList = [.cell 4 49] := by rfl
theorem cl_71 : callable Tryz.prog 71 = true := by kernel_rfl
@[go_sem] theorem rs_71 : Tryz.f71.results.toList = [] := by rfl
theorem cl_72 : callable Tryz.prog 72 = true := by kernel_rfl
@[go_sem] theorem rs_72 : Tryz.f72.results.toList = [.tmp 8, .tmp 9] := by rfl
theorem cl_73 : callable Tryz.prog 73 = true := by kernel_rfl
@[go_sem] theorem rs_73 : Tryz.f73.results.toList = [] := by rfl
@[go_sem] theorem rs_74 : Tryz.f74.results.toList = [.tmp 8, .tmp 9, .tmp 10] := by rfl
theorem cl_75 : callable Tryz.prog 75 = true := by kernel_rfl
@[go_sem] theorem rs_75 : Tryz.f75.results.toList = [.tmp 8] := by rfl
theorem cl_76 : callable Tryz.prog 76 = true := by kernel_rfl
@[go_sem] theorem rs_76 : Tryz.f76.results.toList = [.tmp 6] := by rfl
theorem cl_77 : callable Tryz.prog 77 = true := by kernel_rfl
@[go_sem] theorem rs_77 : Tryz.f77.results.toList = [.tmp 2] := by rfl
theorem cl_78 : callable Tryz.prog 78 = true := by kernel_rfl
@[go_sem] theorem rs_78 : Tryz.f78.results.toList = [] := by rfl
theorem cl_79 : callable Tryz.prog 79 = true := by kernel_rfl
@[go_sem] theorem rs_79 : Tryz.f79.results.toList = [.tmp 2] := by rfl
@[go_sem] theorem rs_80 : Tryz.f80.results.toList = [.tmp 2] := by rfl
theorem cl_81 : callable Tryz.prog 81 = true := by kernel_rfl
@[go_sem] theorem rs_81 : Tryz.f81.results.toList = [.tmp 2] := by rfl
theorem cl_82 : callable Tryz.prog 82 = true := by kernel_rfl
@[go_sem] theorem rs_82 : Tryz.f82.results.toList = [.tmp 2, .tmp 3] := by rfl
@[go_sem] theorem rs_83 : Tryz.f83.results.toList = [.tmp 4, .tmp 5] := by rfl
@[go_sem] theorem rs_84 : Tryz.f84.results.toList = [.tmp 4] := by rfl
@[go_sem] theorem rs_85 : Tryz.f85.results.toList = [.tmp 2] := by rfl
@[go_sem] theorem rs_86 : Tryz.f86.results.toList = [.tmp 2] := by rfl
@[go_sem] theorem rs_87 : Tryz.f87.results.toList = [.cell 4 74, .tmp 5, .tmp 6] := by rfl
@[go_sem] theorem rs_88 : Tryz.f88.results.toList = [.cell 4 78, .tmp 5] := by rfl
@[go_sem] theorem rs_89 : Tryz.f89.results.toList = [.tmp 4] := by rfl
@[go_sem] theorem rs_90 : Tryz.f90.results.toList = [.cell 4 74, .tmp 5, .tmp 6] := by rfl
@[go_sem] theorem rs_91 : Tryz.f91.results.toList = [.cell 6 74, .tmp 7, .tmp 8] := by rfl
@[go_sem] theorem rs_92 : Tryz.f92.results.toList = [.tmp 2] := by rfl
@[go_sem] theorem rs_93 : Tryz.f93.results.toList = [.tmp 6, .tmp 7] := by rfl
@[go_sem] theorem rs_94 : Tryz.f94.results.toList = [.cell 2 74, .tmp 3] := by rfl
@[go_sem] theorem rs_95 : Tryz.f95.results.toList = [.tmp 4, .tmp 5] := by rfl
@[go_sem] theorem rs_96 : Tryz.f96.results.toList = [.cell 2 181] := by rfl
@[go_sem] theorem rs_97 : Tryz.f97.results.toList = [.tmp 4, .tmp 5, .tmp 6] := by rfl
@[go_sem] theorem rs_98 : Tryz.f98.results.toList = [.cell 6 27] := by rfl
@[go_sem] theorem rs_99 : Tryz.f99.results.toList = [.tmp 4] := by rfl
@[go_sem] theorem rs_100 : Tryz.f100.results.toList = [.tmp 4] := by rfl
@[go_sem] theorem rs_101 : Tryz.f101.results.toList = [.tmp 4] := by rfl
@[go_sem] theorem rs_102 : Tryz.f102.results.toList = [.tmp 2] := by rfl
@[go_sem] theorem rs_103 : Tryz.f103.results.toList = [.cell 6 188, .tmp 7] := by rfl
@[go_sem] theorem rs_104 : Tryz.f104.results.toList = [.tmp 2, .tmp 3] := by rfl
theorem cl_105 : callable Tryz.prog 105 = true := by kernel_rfl
@[go_sem] theorem rs_105 : Tryz.f105.results.toList = [] := by rfl
theorem cl_106 : callable Tryz.prog 106 = true := by kernel_rfl
@[go_sem] theorem rs_106 : Tryz.f106.results.toList = [.tmp 2] := by rfl
theorem cl_107 : callable Tryz.prog 107 = true := by kernel_rfl
@[go_sem] theorem rs_107 : Tryz.f107.results.toList = [.cell 4 117] := by rfl
theorem cl_112 : callable Tryz.prog 112 = true := by kernel_rfl
@[go_sem] theorem rs_112 : Tryz.f112.results.toList = [.tmp 2] := by rfl
@[go_sem] theorem rs_113 : Tryz.f113.results.toList = [.tmp 4] := by rfl
@[go_sem] theorem rs_114 : Tryz.f114.results.toList = [.tmp 2] := by rfl
@[go_sem] theorem rs_115 : Tryz.f115.results.toList = [.tmp 2] := by rfl
@[go_sem] theorem rs_116 : Tryz.f116.results.toList = [.cell 8 51, .tmp 9] := by rfl
@[go_sem] theorem rs_117 : Tryz.f117.results.toList = [.cell 2 51, .tmp 3] := by rfl
@[go_sem] theorem rs_118 : Tryz.f118.results.toList = [.tmp 6] := by rfl
theorem cl_119 : callable Tryz.prog 119 = true := by kernel_rfl
@[go_sem] theorem rs_119 : Tryz.f119.results.toList = [.cell 6 188, .tmp 7] := by rfl
theorem cl_120 : callable Tryz.prog 120 = true := by kernel_rfl
@[go_sem] theorem rs_120 : Tryz.f120.results.toList = [.tmp 2, .tmp 3] := by rfl
theorem cl_121 : callable Tryz.prog 121 = true := by kernel_rfl
@[go_sem] theorem rs_121 : Tryz.f121.results.toList = [.tmp 6] := by rfl
theorem cl_122 : callable Tryz.prog 122 = true := by kernel_rfl
@[go_sem] theorem rs_122 : Tryz.f122.results.toList = [.tmp 2] := by rfl
theorem cl_123 : callable Tryz.prog 123 = true := by kernel_rfl
@[go_sem] theorem rs_123 : Tryz.f123.results.toList = [.tmp 2] := by rfl
theorem cl_124 : callable Tryz.prog 124 = true := by kernel_rfl
@[go_sem] theorem rs_124 : Tryz.f124.results.toList = [.tmp 2] := by rfl
theorem cl_125 : callable Tryz.prog 125 = true := by kernel_rfl
@[go_sem] theorem rs_125 : Tryz.f125.results.toList = [.tmp 2] := by rfl
theorem cl_126 : callable Tryz.prog 126 = true := by kernel_rfl
@[go_sem] theorem rs_126 : Tryz.f126.results.toList = [.tmp 2] := by rfl
theorem cl_127 : callable Tryz.prog 127 = true := by kernel_rfl
@[go_sem] theorem rs_127 : Tryz.f127.results.toList = [.tmp 2] := by rfl
theorem cl_128 : callable Tryz.prog 128 = true := by kernel_rfl
@[go_sem] theorem rs_128 : Tryz.f128.results.toList = [.cell 4 23] := by rfl
theorem cl_129 : callable Tryz.prog 129 = true := by kernel_rfl
@[go_sem] theorem rs_129 : Tryz.f129.results.toList = [.tmp 2] := by rfl
theorem cl_130 : callable Tryz.prog 130 = true := by kernel_rfl
@[go_sem] theorem rs_130 : Tryz.f130.results.toList = [.tmp 2] := by rfl
@[go_sem] theorem rs_131 : Tryz.f131.results.toList = [.tmp 4, .tmp 5] := by rfl
@[go_sem] theorem rs_132 : Tryz.f132.results.toList = [.tmp 4] := by rfl
@[go_sem] theorem rs_133 : Tryz.f133.results.toList = [.tmp 4] := by rfl
@[go_sem] theorem rs_134 : Tryz.f134.results.toList = [.tmp 4, .tmp 5, .tmp 6] := by rfl
@[go_sem] theorem rs_135 : Tryz.f135.results.toList = [.cell 8 51, .tmp 9] := by rfl
@[go_sem] theorem rs_136 : Tryz.f136.results.toList = [.tmp 2] := by rfl
@[go_sem] theorem rs_137 : Tryz.f137.results.toList = [.cell 4 74] := by rfl
@[go_sem] theorem rs_138 : Tryz.f138.results.toList = [.tmp 4] := by rfl
@[go_sem] theorem rs_139 : Tryz.f139.results.toList = [.tmp 2] := by rfl
@[go_sem] theorem rs_140 : Tryz.f140.results.toList = [.tmp 2] := by rfl
@[go_sem] theorem rs_141 : Tryz.f141.results.toList = [.tmp 4] := by rfl
@[go_sem] theorem rs_142 : Tryz.f142.results.toList = [.tmp 2] := by rfl
@[go_sem] theorem rs_143 : Tryz.f143.results.toList = [.tmp 4] := by rfl
@[go_sem] theorem rs_144 : Tryz.f144.results.toList = [.tmp 2] := by rfl
@[go_sem] theorem rs_145 : Tryz.f145.results.toList = [.tmp 4] := by rfl
@[go_sem] theorem rs_146 : Tryz.f146.results.toList = [.cell 4 51, .tmp 5] := by rfl
@[go_sem] theorem rs_147 : Tryz.f147.results.toList = [.tmp 4] := by rfl
@[go_sem] theorem rs_148 : Tryz.f148.results.toList = [.tmp 2, .tmp 3] := by rfl
@[go_sem] theorem rs_149 : Tryz.f149.results.toList = [.cell 2 181] := by rfl
@[go_sem] theorem rs_150 : Tryz.f150.results.toList = [.tmp 2] := by rfl
@[go_sem] theorem rs_151 : Tryz.f151.results.toList = [.tmp 2] := by rfl
@[go_sem] theorem rs_152 : Tryz.f152.results.toList = [.cell 2 78] := by rfl
@[go_sem] theorem rs_153 : Tryz.f153.results.toList = [] := by rfl
@[go_sem] theorem rs_154 : Tryz.f154.results.toList = [.tmp 8] := by rfl
@[go_sem] theorem rs_155 : Tryz.f155.results.toList = [.tmp 2] := by rfl
@[go_sem] theorem rs_156 : Tryz.f156.results.toList = [.tmp 4] := by rfl
@[go_sem] theorem rs_157 : Tryz.f157.results.toList = [.tmp 3] := by rfl
@[go_sem] theorem rs_158 : Tryz.f158.results.toList = [.tmp 2] := by rfl
@[go_sem] theorem rs_159 : Tryz.f159.results.toList = [.tmp 4, .tmp 5] := by rfl
@[go_sem] theorem rs_160 : Tryz.f160.results.toList = [.cell 2 188, .tmp 3] := by rfl
@[go_sem] theorem rs_161 : Tryz.f161.results.toList = [.tmp 2, .tmp 3] := by rfl
@[go_sem] theorem rs_165 : Tryz.f165.results.toList = [.tmp 4] := by rfl
@[go_sem] theorem rs_166 : Tryz.f166.results.toList = [.tmp 2, .tmp 3] := by rfl
@[go_sem] theorem rs_167 : Tryz.f167.results.toList = [.cell 6 49, .tmp 7] := by rfl
@[go_sem] theorem rs_168 : Tryz.f168.results.toList = [.cell 2 49, .tmp 3] := by rfl
@[go_sem] theorem rs_169 : Tryz.f169.results.toList = [.tmp 6] := by rfl
theorem cl_170 : callable Tryz.prog 170 = true := by kernel_rfl
@[go_sem] theorem rs_170 : Tryz.f170.results.toList = [.tmp 4, .tmp 5] := by rfl
theorem cl_171 : callable Tryz.prog 171 = true := by kernel_rfl
@[go_sem] theorem rs_171 : Tryz.f171.results.toList = [.cell 2 188, .tmp 3] := by rfl
theorem cl_172 : callable Tryz.prog 172 = true := by kernel_rfl
@[go_sem] theorem rs_172 : Tryz.f172.results.toList = [.tmp 2] := by rfl
theorem cl_173 : callable Tryz.prog 173 = true := by kernel_rfl
@[go_sem] theorem rs_173 : Tryz.f173.results.toList = [.tmp 2] := by rfl
theorem cl_174 : callable Tryz.prog 174 = true := by kernel_rfl
@[go_sem] theorem rs_174 : Tryz.f174.results.toList = [.tmp 6] := by rfl
theorem cl_175 : callable Tryz.prog 175 = true := by kernel_rfl
@[go_sem] theorem rs_175 : Tryz.f175.results.toList = [.tmp 8] := by rfl
theorem cl_176 : callable Tryz.prog 176 = true := by kernel_rfl
@[go_sem] theorem rs_176 : Tryz.f176.results.toList = [.tmp 4] := by rfl
theorem cl_177 : callable Tryz.prog 177 = true := by kernel_rfl
@[go_sem] theorem rs_177 : Tryz.f177.results.toList = [.tmp 2] := by rfl
theorem cl_179 : callable Tryz.prog 179 = true := by kernel_rfl
@[go_sem] theorem rs_179 : Tryz.f179.results.toList = [.tmp 2] := by rfl
theorem cl_181 : callable Tryz.prog 181 = true := by kernel_rfl
@[go_sem] theorem rs_181 : Tryz.f181.results.toList = [] := by rfl
theorem cl_182 : callable Tryz.prog 182 = true := by kernel_rfl
@[go_sem] theorem rs_182 : Tryz.f182.results.toList = [.tmp 2] := by rfl
@[go_sem] theorem rs_183 : Tryz.f183.results.toList = [.tmp 6] := by rfl
@[go_sem] theorem rs_184 : Tryz.f184.results.toList = [.cell 2 293] := by rfl
@[go_sem] theorem rs_185 : Tryz.f185.results.toList = [.tmp 2] := by rfl
@[go_sem] theorem rs_186 : Tryz.f186.results.toList = [.tmp 2] := by rfl
@[go_sem] theorem rs_187 : Tryz.f187.results.toList = [.tmp 4] := by rfl
@[go_sem] theorem rs_188 : Tryz.f188.results.toList = [.tmp 2] := by rfl
@[go_sem] theorem rs_189 : Tryz.f189.results.toList = [.tmp 2] := by rfl
@[go_sem] theorem rs_190 : Tryz.f190.results.toList = [.cell 4 49, .tmp 5] := by rfl
@[go_sem] theorem rs_191 : Tryz.f191.results.toList = [.tmp 4] := by rfl
@[go_sem] theorem rs_192 : Tryz.f192.results.toList = [.tmp 2, .tmp 3] := by rfl
@[go_sem] theorem rs_193 : Tryz.f193.results.toList = [.cell 4 181] := by rfl
@[go_sem] theorem rs_194 : Tryz.f194.results.toList = [.tmp 2] := by rfl
@[go_sem] theorem rs_195 : Tryz.f195.results.toList = [] := by rfl
@[go_sem] theorem rs_196 : Tryz.f196.results.toList = [.tmp 2] := by rfl
@[go_sem] theorem rs_197 : Tryz.f197.results.toList = [.tmp 4] := by rfl
@[go_sem] theorem rs_198 : Tryz.f198.results.toList = [.tmp 2] := by rfl
@[go_sem] theorem rs_199 : Tryz.f199.results.toList = [.tmp 4] := by rfl
@[go_sem] theorem rs_200 : Tryz.f200.results.toList = [.tmp 2] := by rfl
@[go_sem] theorem rs_201 : Tryz.f201.results.toList = [.tmp 2] := by rfl
@[go_sem] theorem rs_202 : Tryz.f202.results.toList = [.cell 2 117, .cell 3 78] := by rfl
@[go_sem] theorem rs_203 : Tryz.f203.results.toList = [.tmp 2] := by rfl
@[go_sem] theorem rs_204 : Tryz.f204.results.toList = [.cell 4 49, .tmp 5] := by rfl
@[go_sem] theorem rs_205 : Tryz.f205.results.toList = [.cell 2 49, .tmp 3] := by rfl
theorem cl_206 : callable Tryz.prog 206 = true := by kernel_rfl
@[go_sem] theorem rs_206 : Tryz.f206.results.toList = [.tmp 2] := by rfl
theorem cl_207 : callable Tryz.prog 207 = true := by kernel_rfl
@[go_sem] theorem rs_207 : Tryz.f207.results.toList = [.cell 2 314] := by rfl
theorem cl_208 : callable Tryz.prog 208 = true := by kernel_rfl
@[go_sem] theorem rs_208 : Tryz.f208.results.toList = [.tmp 2] := by rfl
theorem cl_209 : callable Tryz.prog 209 = true := by kernel_rfl
@[go_sem] theorem rs_209 : Tryz.f209.results.toList = [.tmp 4] := by rfl
theorem cl_210 : callable Tryz.prog 210 = true := by kernel_rfl
@[go_sem] theorem rs_210 : Tryz.f210.results.toList = [.tmp 4] := by rfl
theorem cl_213 : callable Tryz.prog 213 = true := by kernel_rfl
@[go_sem] theorem rs_213 : Tryz.f213.results.toList = [] := by rfl
@[go_sem] theorem rs_214 : Tryz.f214.results.toList = [.tmp 2] := by rfl
@[go_sem] theorem rs_215 : Tryz.f215.results.toList = [.tmp 4] := by rfl
@[go_sem] theorem rs_216 : Tryz.f216.results.toList = [.tmp 6] := by rfl
@[go_sem] theorem rs_217 : Tryz.f217.results.toList = [.cell 2 78] := by rfl
@[go_sem] theorem rs_218 : Tryz.f218.results.toList = [.tmp 2] := by rfl
@[go_sem] theorem rs_219 : Tryz.f219.results.toList = [.tmp 4] := by rfl
@[go_sem] theorem rs_220 : Tryz.f220.results.toList = [.cell 4 117, .tmp 5] := by rfl
@[go_sem] theorem rs_221 : Tryz.f221.results.toList = [.tmp 2] := by rfl
theorem cl_222 : callable Tryz.prog 222 = true := by kernel_rfl
@[go_sem] theorem rs_222 : Tryz.f222.results.toList = [.tmp 4] := by rfl
@[go_sem] theorem rs_234 : Tryz.f234.results.toList = [.tmp 4] := by rfl
theorem cl_235 : callable Tryz.prog 235 = true := by kernel_rfl
@[go_sem] theorem rs_235 : Tryz.f235.results.toList = [.tmp 2] := by rfl
@[go_sem] theorem rs_262 : Tryz.f262.results.toList = [.tmp 4] := by rfl
@[go_sem] theorem rs_263 : Tryz.f263.results.toList = [.tmp 2] := by rfl
attribute [go_sem] Tryz.ntmps3 Tryz.ntmps4 Tryz.ntmps5 Tryz.ntmps6 Tryz.ntmps7 Tryz.ntmps8 Tryz.ntmps9 Tryz.ntmps10 Tryz.ntmps11 Tryz.ntmps12 Tryz.ntmps13 Tryz.ntmps14 Tryz.ntmps15 Tryz.ntmps16 Tryz.ntmps17 Tryz.ntmps18 Tryz.ntmps19 Tryz.ntmps20 Tryz.ntmps21 Tryz.ntmps22
attribute [go_sem] Tryz.ntmps23 Tryz.ntmps24 Tryz.ntmps25 Tryz.ntmps26 Tryz.ntmps27 Tryz.ntmps28 Tryz.ntmps29 Tryz.ntmps30 Tryz.ntmps31 Tryz.ntmps32 Tryz.ntmps33 Tryz.ntmps34 Tryz.ntmps35 Tryz.ntmps36 Tryz.ntmps37 Tryz.ntmps38 Tryz.ntmps39 Tryz.ntmps40 Tryz.ntmps41 Tryz.ntmps42
attribute [go_sem] Tryz.ntmps43 Tryz.ntmps44 Tryz.ntmps45 Tryz.ntmps46 Tryz.ntmps47 Tryz.ntmps48 Tryz.ntmps49 Tryz.ntmps50 Tryz.ntmps51 Tryz.ntmps52 Tryz.ntmps53 Tryz.ntmps54 Tryz.ntmps55 Tryz.ntmps56 Tryz.ntmps57 Tryz.ntmps58 Tryz.ntmps59 Tryz.ntmps60 Tryz.ntmps61 Tryz.ntmps62
attribute [go_sem] Tryz.ntmps63 Tryz.ntmps64 Tryz.ntmps65 Tryz.ntmps66 Tryz.ntmps67 Tryz.ntmps68 Tryz.ntmps69 Tryz.ntmps70 Tryz.ntmps71 Tryz.ntmps72 Tryz.ntmps73 Tryz.ntmps74 Tryz.ntmps75 Tryz.ntmps76 Tryz.ntmps77 Tryz.ntmps78 Tryz.ntmps79 Tryz.ntmps80 Tryz.ntmps81 Tryz.ntmps82
attribute [go_sem] Tryz.ntmps83 Tryz.ntmps84 Tryz.ntmps85 Tryz.ntmps86 Tryz.ntmps87 Tryz.ntmps88 Tryz.ntmps89 Tryz.ntmps90 Tryz.ntmps91 Tryz.ntmps92 Tryz.ntmps93 Tryz.ntmps94 Tryz.ntmps95 Tryz.ntmps96 Tryz.ntmps97 Tryz.ntmps98 Tryz.ntmps99 Tryz.ntmps100 Tryz.ntmps101 Tryz.ntmps102
attribute [go_sem] Tryz.ntmps103 Tryz.ntmps104 Tryz.ntmps105 Tryz.ntmps106 Tryz.ntmps107 Tryz.ntmps111 Tryz.ntmps112 Tryz.ntmps113 Tryz.ntmps114 Tryz.ntmps115 Tryz.ntmps116 Tryz.ntmps117 Tryz.ntmps118 Tryz.ntmps119 Tryz.ntmps120 Tryz.ntmps121 Tryz.ntmps122 Tryz.ntmps123 Tryz.ntmps124 Tryz.ntmps125
attribute [go_sem] Tryz.ntmps126 Tryz.ntmps127 Tryz.ntmps128 Tryz.ntmps129 Tryz.ntmps130 Tryz.ntmps131 Tryz.ntmps132 Tryz.ntmps133 Tryz.ntmps134 Tryz.ntmps135 Tryz.ntmps136 Tryz.ntmps137 Tryz.ntmps138 Tryz.ntmps139 Tryz.ntmps140 Tryz.ntmps141 Tryz.ntmps142 Tryz.ntmps143 Tryz.ntmps144 Tryz.ntmps145
attribute [go_sem] Tryz.ntmps146 Tryz.ntmps147 Tryz.ntmps148 Tryz.ntmps149 Tryz.ntmps150 Tryz.ntmps151 Tryz.ntmps152 Tryz.ntmps153 Tryz.ntmps154 Tryz.ntmps155 Tryz.ntmps156 Tryz.ntmps157 Tryz.ntmps158 Tryz.ntmps159 Tryz.ntmps160 Tryz.ntmps161 Tryz.ntmps165 Tryz.ntmps166 Tryz.ntmps167 Tryz.ntmps168
attribute [go_sem] Tryz.ntmps169 Tryz.ntmps170 Tryz.ntmps171 Tryz.ntmps172 Tryz.ntmps173 Tryz.ntmps174 Tryz.ntmps175 Tryz.ntmps176 Tryz.ntmps177 Tryz.ntmps179 Tryz.ntmps180 Tryz.ntmps181 Tryz.ntmps182 Tryz.ntmps183 Tryz.ntmps184 Tryz.ntmps185 Tryz.ntmps186 Tryz.ntmps187 Tryz.ntmps188 Tryz.ntmps189
attribute [go_sem] Tryz.ntmps190 Tryz.ntmps191 Tryz.ntmps192 Tryz.ntmps193 Tryz.ntmps194 Tryz.ntmps195 Tryz.ntmps196 Tryz.ntmps197 Tryz.ntmps198 Tryz.ntmps199 Tryz.ntmps200 Tryz.ntmps201 Tryz.ntmps202 Tryz.ntmps203 Tryz.ntmps204 Tryz.ntmps205 Tryz.ntmps206 Tryz.ntmps207 Tryz.ntmps208 Tryz.ntmps209
attribute [go_sem] Tryz.ntmps210 Tryz.ntmps211 Tryz.ntmps212 Tryz.ntmps213 Tryz.ntmps214 Tryz.ntmps215 Tryz.ntmps216 Tryz.ntmps217 Tryz.ntmps218 Tryz.ntmps219 Tryz.ntmps220 Tryz.ntmps221 Tryz.ntmps222 Tryz.ntmps223 Tryz.ntmps224 Tryz.ntmps225 Tryz.ntmps226 Tryz.ntmps227 Tryz.ntmps228 Tryz.ntmps229
attribute [go_sem] Tryz.ntmps230 Tryz.ntmps231 Tryz.ntmps232 Tryz.ntmps233 Tryz.ntmps234 Tryz.ntmps235 Tryz.ntmps236 Tryz.ntmps237 Tryz.ntmps238 Tryz.ntmps239 Tryz.ntmps240 Tryz.ntmps241 Tryz.ntmps242 Tryz.ntmps262 Tryz.ntmps263 Tryz.ntmps284
end
end Go.Proofs.YtjppajaoekbkpaaGreatDoor
namespace Go.Proofs.YtjppajaoekbkpaaGreatDoor
open Go Go.Shelf
section
def sortA_ren : Go.Shelf.Ren := ⟨fun | 5 => 180 | 8 => 212 | 7 => 211 | 19 => 232 | 20 => 233 | 10 => 223 | 11 => 224 | 12 => 225 | 13 => 226 | 14 => 227 | 15 => 228 | 16 => 229 | 17 => 230 | 18 => 231 | 30 => 236 | 31 => 237 | 32 => 238 | 33 => 239 | 34 => 240 | 35 => 241 | 40 => 242 | n => n, fun | 23 => 56 | 25 => 3 | 3 => 3 | 32 => 196 | 22 => 56 | 0 => 0 | 44 => 316 | 46 => 108 | 4 => 4 | 36 => 331 | 35 => 330 | 41 => 336 | 5 => 5 | 9 => 9 | 53 => 343 | 57 => 346 | 63 => 348 | 64 => 134 | n => n, fun | n => n⟩
theorem sortA : Go.Proofs.SlLaysM.n5 Tryz.prog sortA_ren where
 mixed := by kernel_rfl
 f5 := ⟨Tryz.f180.name, by decide, Tryz.func180.trans (congrArg some (by kernel_rfl))⟩
 f7 := ⟨Tryz.f211.name, by decide, Tryz.func211.trans (congrArg some (by kernel_rfl))⟩
 f8 := Tryz.func212.trans (congrArg some (by kernel_rfl))
 f10 := ⟨Tryz.f223.name, by decide, Tryz.func223.trans (congrArg some (by kernel_rfl))⟩
 f11 := ⟨Tryz.f224.name, by decide, Tryz.func224.trans (congrArg some (by kernel_rfl))⟩
 f12 := ⟨Tryz.f225.name, by decide, Tryz.func225.trans (congrArg some (by kernel_rfl))⟩
 f13 := ⟨Tryz.f226.name, by decide, Tryz.func226.trans (congrArg some (by kernel_rfl))⟩
 f14 := ⟨Tryz.f227.name, by decide, Tryz.func227.trans (congrArg some (by kernel_rfl))⟩
 f15 := ⟨Tryz.f228.name, by decide, Tryz.func228.trans (congrArg some (by kernel_rfl))⟩
 f16 := ⟨Tryz.f229.name, by decide, Tryz.func229.trans (congrArg some (by kernel_rfl))⟩
 f17 := ⟨Tryz.f230.name, by decide, Tryz.func230.trans (congrArg some (by kernel_rfl))⟩
 f18 := ⟨Tryz.f231.name, by decide, Tryz.func231.trans (congrArg some (by kernel_rfl))⟩
 f19 := Tryz.func232.trans (congrArg some (by kernel_rfl))
 f20 := Tryz.func233.trans (congrArg some (by kernel_rfl))
 f30 := ⟨Tryz.f236.name, by decide, Tryz.func236.trans (congrArg some (by kernel_rfl))⟩
 f31 := Tryz.func237.trans (congrArg some (by kernel_rfl))
 f32 := Tryz.func238.trans (congrArg some (by kernel_rfl))
 f33 := ⟨Tryz.f239.name, by decide, Tryz.func239.trans (congrArg some (by kernel_rfl))⟩
 f34 := ⟨Tryz.f240.name, by decide, Tryz.func240.trans (congrArg some (by kernel_rfl))⟩
 f35 := ⟨Tryz.f241.name, by decide, Tryz.func241.trans (congrArg some (by kernel_rfl))⟩
 f40 := ⟨Tryz.f242.name, by decide, Tryz.func242.trans (congrArg some (by kernel_rfl))⟩
 t0 := Tryz.underlying0
 a0 := Tryz.isAgg0
 z0 := Tryz.sizeOf0
 v0 := Tryz.zeroValue0
 t3 := Tryz.underlying3
 a3 := Tryz.isAgg3
 z3 := Tryz.sizeOf3
 v3 := Tryz.zeroValue3
 t4 := Tryz.underlying4
 a4 := Tryz.isAgg4
 z4 := Tryz.sizeOf4
 v4 := Tryz.zeroValue4
 t5 := Tryz.underlying5
 a5 := Tryz.isAgg5
 z5 := Tryz.sizeOf5
 v5 := Tryz.zeroValue5
 t9 := Tryz.underlying9
 a9 := Tryz.isAgg9
 z9 := Tryz.sizeOf9
 v9 := Tryz.zeroValue9
 t22 := Tryz.underlying56
 a22 := Tryz.isAgg56
 z22 := Tryz.sizeOf56
 v22 := Tryz.zeroValue56
 t23 := Tryz.underlying56
 a23 := Tryz.isAgg56
 z23 := Tryz.sizeOf56
 v23 := Tryz.zeroValue56
 t25 := Tryz.underlying3
 a25 := Tryz.isAgg3
 z25 := Tryz.sizeOf3
 v25 := Tryz.zeroValue3
 t32 := Tryz.underlying196
 a32 := Tryz.isAgg196
 z32 := Tryz.sizeOf196
 v32 := Tryz.zeroValue196
 t35 := Tryz.underlying330
 a35 := Tryz.isAgg330
 z35 := Tryz.sizeOf330
 v35 := Tryz.zeroValue330
 t36 := Tryz.underlying331
 a36 := Tryz.isAgg331
 z36 := Tryz.sizeOf331
 v36 := Tryz.zeroValue331
 t41 := Tryz.underlying336
 a41 := Tryz.isAgg336
 z41 := Tryz.sizeOf336
 v41 := Tryz.zeroValue336
 t44 := Tryz.underlying316
 a44 := Tryz.isAgg316
 z44 := Tryz.sizeOf316
 v44 := Tryz.zeroValue316
 t46 := Tryz.underlying108
 a46 := Tryz.isAgg108
 z46 := Tryz.sizeOf108
 v46 := Tryz.zeroValue108
 t53 := Tryz.underlying343
 a53 := Tryz.isAgg343
 z53 := Tryz.sizeOf343
 v53 := Tryz.zeroValue343
 t57 := Tryz.underlying346
 a57 := Tryz.isAgg346
 z57 := Tryz.sizeOf346
 v57 := Tryz.zeroValue346
 t63 := Tryz.underlying348
 a63 := Tryz.isAgg348
 z63 := Tryz.sizeOf348
 v63 := Tryz.zeroValue348
 t64 := Tryz.underlying134
 a64 := Tryz.isAgg134
 z64 := Tryz.sizeOf134
 v64 := Tryz.zeroValue134
end
end Go.Proofs.YtjppajaoekbkpaaGreatDoor
