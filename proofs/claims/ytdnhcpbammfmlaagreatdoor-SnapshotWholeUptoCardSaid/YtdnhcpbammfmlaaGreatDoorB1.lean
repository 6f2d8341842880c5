/- A part of the proof: what the calls do, told by values. -/
import Derived.Test.YtdnhcpbammfmlaaGreatDoorA2
import Derived.Test.YtdnhcpbammfmlaaGreatDoorProg
import Derived.KernelRfl
import Derived.Shelf.SlLaysM
set_option linter.unusedVariables false
set_option linter.unusedSimpArgs false
set_option maxRecDepth 100000
set_option maxHeartbeats 4000000
namespace Go.Proofs.YtdnhcpbammfmlaaGreatDoor
open Go Go.Av
attribute [go_sem] Tryz.underlying3
section
@[go_sem] theorem tk_3 : tk Tryz.prog 3 = some (1, false) := by kernel_rfl
@[go_sem] theorem tp_3 : tkPlaces Tryz.prog 3 = none := by kernel_rfl
@[go_sem] theorem ta_3 : tkArr Tryz.prog 3 = none := by kernel_rfl
@[go_sem] theorem tb_3 : tkBytes Tryz.prog 3 = some 8 := by kernel_rfl
@[go_sem] theorem tn_3 : notInt Tryz.prog 3 = false := by kernel_rfl
@[go_sem] theorem tz_3 : tkZero Tryz.prog 3 = some [.int .i64 0] := by kernel_rfl
attribute [go_sem] Tryz.underlying4
@[go_sem] theorem tk_4 : tk Tryz.prog 4 = some (1, false) := by kernel_rfl
@[go_sem] theorem tp_4 : tkPlaces Tryz.prog 4 = none := by kernel_rfl
@[go_sem] theorem ta_4 : tkArr Tryz.prog 4 = none := by kernel_rfl
@[go_sem] theorem tb_4 : tkBytes Tryz.prog 4 = some 1 := by kernel_rfl
@[go_sem] theorem tn_4 : notInt Tryz.prog 4 = true := by kernel_rfl
@[go_sem] theorem tz_4 : tkZero Tryz.prog 4 = some [.bool false] := by kernel_rfl
attribute [go_sem] Tryz.underlying5
@[go_sem] theorem tk_5 : tk Tryz.prog 5 = some (1, false) := by kernel_rfl
@[go_sem] theorem tp_5 : tkPlaces Tryz.prog 5 = none := by kernel_rfl
@[go_sem] theorem ta_5 : tkArr Tryz.prog 5 = none := by kernel_rfl
@[go_sem] theorem tb_5 : tkBytes Tryz.prog 5 = some 1 := by kernel_rfl
@[go_sem] theorem tn_5 : notInt Tryz.prog 5 = false := by kernel_rfl
@[go_sem] theorem tz_5 : tkZero Tryz.prog 5 = some [.int .u8 0] := by kernel_rfl
attribute [go_sem] Tryz.underlying9
@[go_sem] theorem tk_9 : tk Tryz.prog 9 = some (1, false) := by kernel_rfl
@[go_sem] theorem tp_9 : tkPlaces Tryz.prog 9 = none := by kernel_rfl
@[go_sem] theorem ta_9 : tkArr Tryz.prog 9 = none := by kernel_rfl
@[go_sem] theorem tb_9 : tkBytes Tryz.prog 9 = some 16 := by kernel_rfl
@[go_sem] theorem tn_9 : notInt Tryz.prog 9 = true := by kernel_rfl
@[go_sem] theorem tz_9 : tkZero Tryz.prog 9 = some [.string ⟨#[]⟩] := by kernel_rfl
attribute [go_sem] Tryz.underlying17
@[go_sem] theorem tk_17 : tk Tryz.prog 17 = some (1, false) := by kernel_rfl
@[go_sem] theorem tp_17 : tkPlaces Tryz.prog 17 = none := by kernel_rfl
@[go_sem] theorem ta_17 : tkArr Tryz.prog 17 = none := by kernel_rfl
@[go_sem] theorem tb_17 : tkBytes Tryz.prog 17 = some 8 := by kernel_rfl
@[go_sem] theorem tn_17 : notInt Tryz.prog 17 = true := by kernel_rfl
@[go_sem] theorem tz_17 : tkZero Tryz.prog 17 = some [.pointer none] := by kernel_rfl
attribute [go_sem] Tryz.underlying20
@[go_sem] theorem tk_20 : tk Tryz.prog 20 = some (1, false) := by kernel_rfl
@[go_sem] theorem tp_20 : tkPlaces Tryz.prog 20 = none := by kernel_rfl
@[go_sem] theorem ta_20 : tkArr Tryz.prog 20 = none := by kernel_rfl
@[go_sem] theorem tb_20 : tkBytes Tryz.prog 20 = some 16 := by kernel_rfl
@[go_sem] theorem tn_20 : notInt Tryz.prog 20 = true := by kernel_rfl
@[go_sem] theorem tz_20 : tkZero Tryz.prog 20 = some [.nilIface] := by kernel_rfl
attribute [go_sem] Tryz.underlying22
@[go_sem] theorem tk_22 : tk Tryz.prog 22 = some (1, false) := by kernel_rfl
@[go_sem] theorem tp_22 : tkPlaces Tryz.prog 22 = none := by kernel_rfl
@[go_sem] theorem ta_22 : tkArr Tryz.prog 22 = none := by kernel_rfl
@[go_sem] theorem te_22 : tkElem Tryz.prog 22 = some (3, true) := by kernel_rfl
@[go_sem] theorem tb_22 : tkBytes Tryz.prog 22 = some 24 := by kernel_rfl
@[go_sem] theorem tn_22 : notInt Tryz.prog 22 = true := by kernel_rfl
@[go_sem] theorem tz_22 : tkZero Tryz.prog 22 = some [.slice none 0 0] := by kernel_rfl
attribute [go_sem] Tryz.underlying23
@[go_sem] theorem tk_23 : tk Tryz.prog 23 = some (1, false) := by kernel_rfl
@[go_sem] theorem tp_23 : tkPlaces Tryz.prog 23 = none := by kernel_rfl
@[go_sem] theorem ta_23 : tkArr Tryz.prog 23 = none := by kernel_rfl
@[go_sem] theorem te_23 : tkElem Tryz.prog 23 = some (1, false) := by kernel_rfl
@[go_sem] theorem tb_23 : tkBytes Tryz.prog 23 = some 24 := by kernel_rfl
@[go_sem] theorem tn_23 : notInt Tryz.prog 23 = true := by kernel_rfl
@[go_sem] theorem tz_23 : tkZero Tryz.prog 23 = some [.slice none 0 0] := by kernel_rfl
attribute [go_sem] Tryz.underlying24
@[go_sem] theorem tk_24 : tk Tryz.prog 24 = some (1, false) := by kernel_rfl
@[go_sem] theorem tp_24 : tkPlaces Tryz.prog 24 = none := by kernel_rfl
@[go_sem] theorem ta_24 : tkArr Tryz.prog 24 = none := by kernel_rfl
@[go_sem] theorem tb_24 : tkBytes Tryz.prog 24 = some 2 := by kernel_rfl
@[go_sem] theorem tn_24 : notInt Tryz.prog 24 = false := by kernel_rfl
@[go_sem] theorem tz_24 : tkZero Tryz.prog 24 = some [.int .u16 0] := by kernel_rfl
attribute [go_sem] Tryz.underlying27
@[go_sem] theorem tk_27 : tk Tryz.prog 27 = some (1, false) := by kernel_rfl
@[go_sem] theorem tp_27 : tkPlaces Tryz.prog 27 = none := by kernel_rfl
@[go_sem] theorem ta_27 : tkArr Tryz.prog 27 = none := by kernel_rfl
@[go_sem] theorem tb_27 : tkBytes Tryz.prog 27 = some 16 := by kernel_rfl
@[go_sem] theorem tn_27 : notInt Tryz.prog 27 = true := by kernel_rfl
@[go_sem] theorem tz_27 : tkZero Tryz.prog 27 = some [.nilIface] := by kernel_rfl
attribute [go_sem] Tryz.underlying30
@[go_sem] theorem tk_30 : tk Tryz.prog 30 = some (1, false) := by kernel_rfl
@[go_sem] theorem tp_30 : tkPlaces Tryz.prog 30 = none := by kernel_rfl
@[go_sem] theorem ta_30 : tkArr Tryz.prog 30 = none := by kernel_rfl
@[go_sem] theorem tb_30 : tkBytes Tryz.prog 30 = some 8 := by kernel_rfl
@[go_sem] theorem tn_30 : notInt Tryz.prog 30 = false := by kernel_rfl
@[go_sem] theorem tz_30 : tkZero Tryz.prog 30 = some [.int .i64 0] := by kernel_rfl
attribute [go_sem] Tryz.underlying40
@[go_sem] theorem tk_40 : tk Tryz.prog 40 = some (1, false) := by kernel_rfl
@[go_sem] theorem tp_40 : tkPlaces Tryz.prog 40 = none := by kernel_rfl
@[go_sem] theorem ta_40 : tkArr Tryz.prog 40 = none := by kernel_rfl
@[go_sem] theorem te_40 : tkElem Tryz.prog 40 = some (7, true) := by kernel_rfl
@[go_sem] theorem tb_40 : tkBytes Tryz.prog 40 = some 24 := by kernel_rfl
@[go_sem] theorem tn_40 : notInt Tryz.prog 40 = true := by kernel_rfl
@[go_sem] theorem tz_40 : tkZero Tryz.prog 40 = some [.slice none 0 0] := by kernel_rfl
attribute [go_sem] Tryz.underlying42
@[go_sem] theorem tk_42 : tk Tryz.prog 42 = some (1, false) := by kernel_rfl
@[go_sem] theorem tp_42 : tkPlaces Tryz.prog 42 = none := by kernel_rfl
@[go_sem] theorem ta_42 : tkArr Tryz.prog 42 = none := by kernel_rfl
@[go_sem] theorem tb_42 : tkBytes Tryz.prog 42 = some 8 := by kernel_rfl
@[go_sem] theorem tn_42 : notInt Tryz.prog 42 = true := by kernel_rfl
@[go_sem] theorem tz_42 : tkZero Tryz.prog 42 = some [.pointer none] := by kernel_rfl
attribute [go_sem] Tryz.underlying43
@[go_sem] theorem tk_43 : tk Tryz.prog 43 = some (1, false) := by kernel_rfl
@[go_sem] theorem tp_43 : tkPlaces Tryz.prog 43 = none := by kernel_rfl
@[go_sem] theorem ta_43 : tkArr Tryz.prog 43 = none := by kernel_rfl
@[go_sem] theorem tb_43 : tkBytes Tryz.prog 43 = some 8 := by kernel_rfl
@[go_sem] theorem tn_43 : notInt Tryz.prog 43 = true := by kernel_rfl
@[go_sem] theorem tz_43 : tkZero Tryz.prog 43 = some [.pointer none] := by kernel_rfl
attribute [go_sem] Tryz.underlying46
@[go_sem] theorem tk_46 : tk Tryz.prog 46 = some (1, false) := by kernel_rfl
@[go_sem] theorem tp_46 : tkPlaces Tryz.prog 46 = none := by kernel_rfl
@[go_sem] theorem ta_46 : tkArr Tryz.prog 46 = none := by kernel_rfl
@[go_sem] theorem te_46 : tkElem Tryz.prog 46 = some (2, true) := by kernel_rfl
@[go_sem] theorem tb_46 : tkBytes Tryz.prog 46 = some 24 := by kernel_rfl
@[go_sem] theorem tn_46 : notInt Tryz.prog 46 = true := by kernel_rfl
@[go_sem] theorem tz_46 : tkZero Tryz.prog 46 = some [.slice none 0 0] := by kernel_rfl
attribute [go_sem] Tryz.underlying47
@[go_sem] theorem tk_47 : tk Tryz.prog 47 = some (1, false) := by kernel_rfl
@[go_sem] theorem tp_47 : tkPlaces Tryz.prog 47 = none := by kernel_rfl
@[go_sem] theorem ta_47 : tkArr Tryz.prog 47 = none := by kernel_rfl
@[go_sem] theorem te_47 : tkElem Tryz.prog 47 = some (3, true) := by kernel_rfl
@[go_sem] theorem tb_47 : tkBytes Tryz.prog 47 = some 24 := by kernel_rfl
@[go_sem] theorem tn_47 : notInt Tryz.prog 47 = true := by kernel_rfl
@[go_sem] theorem tz_47 : tkZero Tryz.prog 47 = some [.slice none 0 0] := by kernel_rfl
attribute [go_sem] Tryz.underlying49
@[go_sem] theorem tk_49 : tk Tryz.prog 49 = some (6, true) := by kernel_rfl
@[go_sem] theorem tf_49_0 : tkField Tryz.prog 49 0 = some (0, 1, false) := by kernel_rfl
@[go_sem] theorem tf_49_1 : tkField Tryz.prog 49 1 = some (1, 1, false) := by kernel_rfl
@[go_sem] theorem tf_49_2 : tkField Tryz.prog 49 2 = some (2, 1, false) := by kernel_rfl
@[go_sem] theorem tf_49_3 : tkField Tryz.prog 49 3 = some (3, 1, false) := by kernel_rfl
@[go_sem] theorem tf_49_4 : tkField Tryz.prog 49 4 = some (4, 1, false) := by kernel_rfl
@[go_sem] theorem tf_49_5 : tkField Tryz.prog 49 5 = some (5, 1, false) := by kernel_rfl
@[go_sem] theorem tp_49 : tkPlaces Tryz.prog 49 = some [(0, 1), (1, 1), (2, 1), (3, 1), (4, 1), (5, 1)] := by kernel_rfl
@[go_sem] theorem ta_49 : tkArr Tryz.prog 49 = none := by kernel_rfl
@[go_sem] theorem tb_49 : tkBytes Tryz.prog 49 = some 80 := by kernel_rfl
@[go_sem] theorem tn_49 : notInt Tryz.prog 49 = true := by kernel_rfl
@[go_sem] theorem tz_49 : tkZero Tryz.prog 49 = some [.int .i64 0, .slice none 0 0, .slice none 0 0, .int .i64 0, .bool false, .int .i64 0] := by kernel_rfl
attribute [go_sem] Tryz.underlying51
@[go_sem] theorem tk_51 : tk Tryz.prog 51 = some (7, true) := by kernel_rfl
@[go_sem] theorem tf_51_0 : tkField Tryz.prog 51 0 = some (0, 6, true) := by kernel_rfl
@[go_sem] theorem tf_51_1 : tkField Tryz.prog 51 1 = some (6, 1, false) := by kernel_rfl
@[go_sem] theorem tp_51 : tkPlaces Tryz.prog 51 = some [(0, 6), (6, 1)] := by kernel_rfl
@[go_sem] theorem ta_51 : tkArr Tryz.prog 51 = none := by kernel_rfl
@[go_sem] theorem tb_51 : tkBytes Tryz.prog 51 = some 88 := by kernel_rfl
@[go_sem] theorem tn_51 : notInt Tryz.prog 51 = true := by kernel_rfl
@[go_sem] theorem tz_51 : tkZero Tryz.prog 51 = some [.int .i64 0, .slice none 0 0, .slice none 0 0, .int .i64 0, .bool false, .int .i64 0, .int .i64 0] := by kernel_rfl
attribute [go_sem] Tryz.underlying56
@[go_sem] theorem tk_56 : tk Tryz.prog 56 = some (1, false) := by kernel_rfl
@[go_sem] theorem tp_56 : tkPlaces Tryz.prog 56 = none := by kernel_rfl
@[go_sem] theorem ta_56 : tkArr Tryz.prog 56 = none := by kernel_rfl
@[go_sem] theorem te_56 : tkElem Tryz.prog 56 = some (1, false) := by kernel_rfl
@[go_sem] theorem tb_56 : tkBytes Tryz.prog 56 = some 24 := by kernel_rfl
@[go_sem] theorem tn_56 : notInt Tryz.prog 56 = true := by kernel_rfl
@[go_sem] theorem tz_56 : tkZero Tryz.prog 56 = some [.slice none 0 0] := by kernel_rfl
attribute [go_sem] Tryz.underlying58
@[go_sem] theorem tk_58 : tk Tryz.prog 58 = some (7, true) := by kernel_rfl
@[go_sem] theorem tf_58_0 : tkField Tryz.prog 58 0 = some (0, 1, false) := by kernel_rfl
@[go_sem] theorem tf_58_1 : tkField Tryz.prog 58 1 = some (1, 1, false) := by kernel_rfl
@[go_sem] theorem tf_58_2 : tkField Tryz.prog 58 2 = some (2, 1, false) := by kernel_rfl
@[go_sem] theorem tf_58_3 : tkField Tryz.prog 58 3 = some (3, 1, false) := by kernel_rfl
@[go_sem] theorem tf_58_4 : tkField Tryz.prog 58 4 = some (4, 1, false) := by kernel_rfl
@[go_sem] theorem tf_58_5 : tkField Tryz.prog 58 5 = some (5, 1, false) := by kernel_rfl
@[go_sem] theorem tf_58_6 : tkField Tryz.prog 58 6 = some (6, 1, false) := by kernel_rfl
@[go_sem] theorem tp_58 : tkPlaces Tryz.prog 58 = some [(0, 1), (1, 1), (2, 1), (3, 1), (4, 1), (5, 1), (6, 1)] := by kernel_rfl
@[go_sem] theorem ta_58 : tkArr Tryz.prog 58 = none := by kernel_rfl
@[go_sem] theorem tb_58 : tkBytes Tryz.prog 58 = some 88 := by kernel_rfl
@[go_sem] theorem tn_58 : notInt Tryz.prog 58 = true := by kernel_rfl
@[go_sem] theorem tz_58 : tkZero Tryz.prog 58 = some [.int .i64 0, .int .i64 0, .int .i64 0, .slice none 0 0, .int .i64 0, .bool false, .slice none 0 0] := by kernel_rfl
attribute [go_sem] Tryz.underlying68
@[go_sem] theorem tk_68 : tk Tryz.prog 68 = some (1, false) := by kernel_rfl
@[go_sem] theorem tp_68 : tkPlaces Tryz.prog 68 = none := by kernel_rfl
@[go_sem] theorem ta_68 : tkArr Tryz.prog 68 = none := by kernel_rfl
@[go_sem] theorem tb_68 : tkBytes Tryz.prog 68 = some 8 := by kernel_rfl
@[go_sem] theorem tn_68 : notInt Tryz.prog 68 = false := by kernel_rfl
@[go_sem] theorem tz_68 : tkZero Tryz.prog 68 = some [.int .u64 0] := by kernel_rfl
attribute [go_sem] Tryz.underlying70
@[go_sem] theorem tk_70 : tk Tryz.prog 70 = some (3, true) := by kernel_rfl
@[go_sem] theorem tf_70_0 : tkField Tryz.prog 70 0 = some (0, 1, false) := by kernel_rfl
@[go_sem] theorem tf_70_1 : tkField Tryz.prog 70 1 = some (1, 1, false) := by kernel_rfl
@[go_sem] theorem tf_70_2 : tkField Tryz.prog 70 2 = some (2, 1, false) := by kernel_rfl
@[go_sem] theorem tp_70 : tkPlaces Tryz.prog 70 = some [(0, 1), (1, 1), (2, 1)] := by kernel_rfl
@[go_sem] theorem ta_70 : tkArr Tryz.prog 70 = none := by kernel_rfl
@[go_sem] theorem tb_70 : tkBytes Tryz.prog 70 = some 24 := by kernel_rfl
@[go_sem] theorem tn_70 : notInt Tryz.prog 70 = true := by kernel_rfl
@[go_sem] theorem tz_70 : tkZero Tryz.prog 70 = some [.int .u64 0, .int .i64 0, .int .i64 0] := by kernel_rfl
attribute [go_sem] Tryz.underlying71
@[go_sem] theorem tk_71 : tk Tryz.prog 71 = some (1, false) := by kernel_rfl
@[go_sem] theorem tp_71 : tkPlaces Tryz.prog 71 = none := by kernel_rfl
@[go_sem] theorem ta_71 : tkArr Tryz.prog 71 = none := by kernel_rfl
@[go_sem] theorem tb_71 : tkBytes Tryz.prog 71 = some 8 := by kernel_rfl
@[go_sem] theorem tn_71 : notInt Tryz.prog 71 = true := by kernel_rfl
@[go_sem] theorem tz_71 : tkZero Tryz.prog 71 = some [.pointer none] := by kernel_rfl
attribute [go_sem] Tryz.underlying78
@[go_sem] theorem tk_78 : tk Tryz.prog 78 = some (3, true) := by kernel_rfl
@[go_sem] theorem tf_78_0 : tkField Tryz.prog 78 0 = some (0, 1, false) := by kernel_rfl
@[go_sem] theorem tf_78_1 : tkField Tryz.prog 78 1 = some (1, 1, false) := by kernel_rfl
@[go_sem] theorem tf_78_2 : tkField Tryz.prog 78 2 = some (2, 1, false) := by kernel_rfl
@[go_sem] theorem tp_78 : tkPlaces Tryz.prog 78 = some [(0, 1), (1, 1), (2, 1)] := by kernel_rfl
@[go_sem] theorem ta_78 : tkArr Tryz.prog 78 = none := by kernel_rfl
@[go_sem] theorem tb_78 : tkBytes Tryz.prog 78 = some 40 := by kernel_rfl
@[go_sem] theorem tn_78 : notInt Tryz.prog 78 = true := by kernel_rfl
@[go_sem] theorem tz_78 : tkZero Tryz.prog 78 = some [.slice none 0 0, .int .i64 0, .int .i64 0] := by kernel_rfl
attribute [go_sem] Tryz.underlying84
@[go_sem] theorem tk_84 : tk Tryz.prog 84 = some (1, false) := by kernel_rfl
@[go_sem] theorem tp_84 : tkPlaces Tryz.prog 84 = none := by kernel_rfl
@[go_sem] theorem ta_84 : tkArr Tryz.prog 84 = none := by kernel_rfl
@[go_sem] theorem tb_84 : tkBytes Tryz.prog 84 = some 8 := by kernel_rfl
@[go_sem] theorem tn_84 : notInt Tryz.prog 84 = true := by kernel_rfl
@[go_sem] theorem tz_84 : tkZero Tryz.prog 84 = some [.pointer none] := by kernel_rfl
attribute [go_sem] Tryz.underlying86
@[go_sem] theorem tk_86 : tk Tryz.prog 86 = some (1, false) := by kernel_rfl
@[go_sem] theorem tp_86 : tkPlaces Tryz.prog 86 = none := by kernel_rfl
@[go_sem] theorem ta_86 : tkArr Tryz.prog 86 = none := by kernel_rfl
@[go_sem] theorem tb_86 : tkBytes Tryz.prog 86 = some 8 := by kernel_rfl
@[go_sem] theorem tn_86 : notInt Tryz.prog 86 = true := by kernel_rfl
@[go_sem] theorem tz_86 : tkZero Tryz.prog 86 = some [.pointer none] := by kernel_rfl
attribute [go_sem] Tryz.underlying88
@[go_sem] theorem tk_88 : tk Tryz.prog 88 = some (4, true) := by kernel_rfl
@[go_sem] theorem tf_88_0 : tkField Tryz.prog 88 0 = some (0, 1, false) := by kernel_rfl
@[go_sem] theorem tf_88_1 : tkField Tryz.prog 88 1 = some (1, 1, false) := by kernel_rfl
@[go_sem] theorem tf_88_2 : tkField Tryz.prog 88 2 = some (2, 1, false) := by kernel_rfl
@[go_sem] theorem tf_88_3 : tkField Tryz.prog 88 3 = some (3, 1, false) := by kernel_rfl
@[go_sem] theorem tp_88 : tkPlaces Tryz.prog 88 = some [(0, 1), (1, 1), (2, 1), (3, 1)] := by kernel_rfl
@[go_sem] theorem ta_88 : tkArr Tryz.prog 88 = none := by kernel_rfl
@[go_sem] theorem tb_88 : tkBytes Tryz.prog 88 = some 48 := by kernel_rfl
@[go_sem] theorem tn_88 : notInt Tryz.prog 88 = true := by kernel_rfl
@[go_sem] theorem tz_88 : tkZero Tryz.prog 88 = some [.string ⟨#[]⟩, .int .i64 0, .int .i64 0, .nilIface] := by kernel_rfl
attribute [go_sem] Tryz.underlying98
@[go_sem] theorem tk_98 : tk Tryz.prog 98 = some (2, true) := by kernel_rfl
@[go_sem] theorem tf_98_0 : tkField Tryz.prog 98 0 = some (0, 1, false) := by kernel_rfl
@[go_sem] theorem tf_98_1 : tkField Tryz.prog 98 1 = some (1, 1, false) := by kernel_rfl
@[go_sem] theorem tp_98 : tkPlaces Tryz.prog 98 = some [(0, 1), (1, 1)] := by kernel_rfl
@[go_sem] theorem ta_98 : tkArr Tryz.prog 98 = none := by kernel_rfl
@[go_sem] theorem tb_98 : tkBytes Tryz.prog 98 = some 32 := by kernel_rfl
@[go_sem] theorem tn_98 : notInt Tryz.prog 98 = true := by kernel_rfl
@[go_sem] theorem tz_98 : tkZero Tryz.prog 98 = some [.int .i64 0, .slice none 0 0] := by kernel_rfl
attribute [go_sem] Tryz.underlying103
@[go_sem] theorem tk_103 : tk Tryz.prog 103 = some (1, true) := by kernel_rfl
@[go_sem] theorem tf_103_0 : tkField Tryz.prog 103 0 = some (0, 1, false) := by kernel_rfl
@[go_sem] theorem tp_103 : tkPlaces Tryz.prog 103 = some [(0, 1)] := by kernel_rfl
@[go_sem] theorem ta_103 : tkArr Tryz.prog 103 = none := by kernel_rfl
@[go_sem] theorem tb_103 : tkBytes Tryz.prog 103 = some 16 := by kernel_rfl
@[go_sem] theorem tn_103 : notInt Tryz.prog 103 = true := by kernel_rfl
@[go_sem] theorem tz_103 : tkZero Tryz.prog 103 = some [.nilIface] := by kernel_rfl
attribute [go_sem] Tryz.underlying114
@[go_sem] theorem tk_114 : tk Tryz.prog 114 = some (2, true) := by kernel_rfl
@[go_sem] theorem tf_114_0 : tkField Tryz.prog 114 0 = some (0, 1, false) := by kernel_rfl
@[go_sem] theorem tf_114_1 : tkField Tryz.prog 114 1 = some (1, 1, false) := by kernel_rfl
@[go_sem] theorem tp_114 : tkPlaces Tryz.prog 114 = some [(0, 1), (1, 1)] := by kernel_rfl
@[go_sem] theorem ta_114 : tkArr Tryz.prog 114 = none := by kernel_rfl
@[go_sem] theorem tb_114 : tkBytes Tryz.prog 114 = some 16 := by kernel_rfl
@[go_sem] theorem tn_114 : notInt Tryz.prog 114 = true := by kernel_rfl
@[go_sem] theorem tz_114 : tkZero Tryz.prog 114 = some [.pointer none, .int .i64 0] := by kernel_rfl
attribute [go_sem] Tryz.underlying115
@[go_sem] theorem tk_115 : tk Tryz.prog 115 = some (1, false) := by kernel_rfl
@[go_sem] theorem tp_115 : tkPlaces Tryz.prog 115 = none := by kernel_rfl
@[go_sem] theorem ta_115 : tkArr Tryz.prog 115 = none := by kernel_rfl
@[go_sem] theorem tb_115 : tkBytes Tryz.prog 115 = some 8 := by kernel_rfl
@[go_sem] theorem tn_115 : notInt Tryz.prog 115 = true := by kernel_rfl
@[go_sem] theorem tz_115 : tkZero Tryz.prog 115 = some [.map none] := by kernel_rfl
attribute [go_sem] Tryz.underlying116
@[go_sem] theorem tk_116 : tk Tryz.prog 116 = some (1, false) := by kernel_rfl
@[go_sem] theorem tp_116 : tkPlaces Tryz.prog 116 = none := by kernel_rfl
@[go_sem] theorem ta_116 : tkArr Tryz.prog 116 = none := by kernel_rfl
@[go_sem] theorem te_116 : tkElem Tryz.prog 116 = some (2, true) := by kernel_rfl
@[go_sem] theorem tb_116 : tkBytes Tryz.prog 116 = some 24 := by kernel_rfl
@[go_sem] theorem tn_116 : notInt Tryz.prog 116 = true := by kernel_rfl
@[go_sem] theorem tz_116 : tkZero Tryz.prog 116 = some [.slice none 0 0] := by kernel_rfl
attribute [go_sem] Tryz.underlying118
@[go_sem] theorem tk_118 : tk Tryz.prog 118 = some (6, true) := by kernel_rfl
@[go_sem] theorem tf_118_0 : tkField Tryz.prog 118 0 = some (0, 1, false) := by kernel_rfl
@[go_sem] theorem tf_118_1 : tkField Tryz.prog 118 1 = some (1, 1, false) := by kernel_rfl
@[go_sem] theorem tf_118_2 : tkField Tryz.prog 118 2 = some (2, 1, false) := by kernel_rfl
@[go_sem] theorem tf_118_3 : tkField Tryz.prog 118 3 = some (3, 1, false) := by kernel_rfl
@[go_sem] theorem tf_118_4 : tkField Tryz.prog 118 4 = some (4, 1, false) := by kernel_rfl
@[go_sem] theorem tf_118_5 : tkField Tryz.prog 118 5 = some (5, 1, false) := by kernel_rfl
@[go_sem] theorem tp_118 : tkPlaces Tryz.prog 118 = some [(0, 1), (1, 1), (2, 1), (3, 1), (4, 1), (5, 1)] := by kernel_rfl
@[go_sem] theorem ta_118 : tkArr Tryz.prog 118 = none := by kernel_rfl
@[go_sem] theorem tb_118 : tkBytes Tryz.prog 118 = some 64 := by kernel_rfl
@[go_sem] theorem tn_118 : notInt Tryz.prog 118 = true := by kernel_rfl
@[go_sem] theorem tz_118 : tkZero Tryz.prog 118 = some [.int .i64 0, .map none, .slice none 0 0, .int .i64 0, .bool false, .int .i64 0] := by kernel_rfl
attribute [go_sem] Tryz.underlying120
@[go_sem] theorem tk_120 : tk Tryz.prog 120 = some (2, true) := by kernel_rfl
@[go_sem] theorem tf_120_0 : tkField Tryz.prog 120 0 = some (0, 1, false) := by kernel_rfl
@[go_sem] theorem tf_120_1 : tkField Tryz.prog 120 1 = some (1, 1, false) := by kernel_rfl
@[go_sem] theorem tp_120 : tkPlaces Tryz.prog 120 = some [(0, 1), (1, 1)] := by kernel_rfl
@[go_sem] theorem ta_120 : tkArr Tryz.prog 120 = none := by kernel_rfl
@[go_sem] theorem tb_120 : tkBytes Tryz.prog 120 = some 32 := by kernel_rfl
@[go_sem] theorem tn_120 : notInt Tryz.prog 120 = true := by kernel_rfl
@[go_sem] theorem tz_120 : tkZero Tryz.prog 120 = some [.int .i64 0, .slice none 0 0] := by kernel_rfl
attribute [go_sem] Tryz.underlying124
@[go_sem] theorem tk_124 : tk Tryz.prog 124 = some (3, true) := by kernel_rfl
@[go_sem] theorem tf_124_0 : tkField Tryz.prog 124 0 = some (0, 1, false) := by kernel_rfl
@[go_sem] theorem tf_124_1 : tkField Tryz.prog 124 1 = some (1, 1, false) := by kernel_rfl
@[go_sem] theorem tf_124_2 : tkField Tryz.prog 124 2 = some (2, 1, false) := by kernel_rfl
@[go_sem] theorem tp_124 : tkPlaces Tryz.prog 124 = some [(0, 1), (1, 1), (2, 1)] := by kernel_rfl
@[go_sem] theorem ta_124 : tkArr Tryz.prog 124 = none := by kernel_rfl
@[go_sem] theorem tb_124 : tkBytes Tryz.prog 124 = some 40 := by kernel_rfl
@[go_sem] theorem tn_124 : notInt Tryz.prog 124 = true := by kernel_rfl
@[go_sem] theorem tz_124 : tkZero Tryz.prog 124 = some [.slice none 0 0, .int .i64 0, .int .i64 0] := by kernel_rfl
attribute [go_sem] Tryz.underlying128
@[go_sem] theorem tk_128 : tk Tryz.prog 128 = some (1, false) := by kernel_rfl
@[go_sem] theorem tp_128 : tkPlaces Tryz.prog 128 = none := by kernel_rfl
@[go_sem] theorem ta_128 : tkArr Tryz.prog 128 = none := by kernel_rfl
@[go_sem] theorem tb_128 : tkBytes Tryz.prog 128 = some 8 := by kernel_rfl
@[go_sem] theorem tn_128 : notInt Tryz.prog 128 = true := by kernel_rfl
@[go_sem] theorem tz_128 : tkZero Tryz.prog 128 = some [.pointer none] := by kernel_rfl
attribute [go_sem] Tryz.underlying129
@[go_sem] theorem tk_129 : tk Tryz.prog 129 = some (1, false) := by kernel_rfl
@[go_sem] theorem tp_129 : tkPlaces Tryz.prog 129 = none := by kernel_rfl
@[go_sem] theorem ta_129 : tkArr Tryz.prog 129 = none := by kernel_rfl
@[go_sem] theorem tb_129 : tkBytes Tryz.prog 129 = some 8 := by kernel_rfl
@[go_sem] theorem tn_129 : notInt Tryz.prog 129 = false := by kernel_rfl
@[go_sem] theorem tz_129 : tkZero Tryz.prog 129 = some [.int .u64 0] := by kernel_rfl
attribute [go_sem] Tryz.underlying131
@[go_sem] theorem tk_131 : tk Tryz.prog 131 = some (3, true) := by kernel_rfl
@[go_sem] theorem tf_131_0 : tkField Tryz.prog 131 0 = some (0, 1, false) := by kernel_rfl
@[go_sem] theorem tf_131_1 : tkField Tryz.prog 131 1 = some (1, 1, false) := by kernel_rfl
@[go_sem] theorem tf_131_2 : tkField Tryz.prog 131 2 = some (2, 1, false) := by kernel_rfl
@[go_sem] theorem tp_131 : tkPlaces Tryz.prog 131 = some [(0, 1), (1, 1), (2, 1)] := by kernel_rfl
@[go_sem] theorem ta_131 : tkArr Tryz.prog 131 = none := by kernel_rfl
@[go_sem] theorem tb_131 : tkBytes Tryz.prog 131 = some 24 := by kernel_rfl
@[go_sem] theorem tn_131 : notInt Tryz.prog 131 = true := by kernel_rfl
@[go_sem] theorem tz_131 : tkZero Tryz.prog 131 = some [.pointer none, .pointer none, .int .u64 0] := by kernel_rfl
attribute [go_sem] Tryz.underlying134
@[go_sem] theorem tk_134 : tk Tryz.prog 134 = some (1, false) := by kernel_rfl
@[go_sem] theorem tp_134 : tkPlaces Tryz.prog 134 = none := by kernel_rfl
@[go_sem] theorem ta_134 : tkArr Tryz.prog 134 = none := by kernel_rfl
@[go_sem] theorem tb_134 : tkBytes Tryz.prog 134 = some 16 := by kernel_rfl
@[go_sem] theorem tn_134 : notInt Tryz.prog 134 = true := by kernel_rfl
@[go_sem] theorem tz_134 : tkZero Tryz.prog 134 = some [.nilIface] := by kernel_rfl
attribute [go_sem] Tryz.underlying136
@[go_sem] theorem tk_136 : tk Tryz.prog 136 = some (1, false) := by kernel_rfl
@[go_sem] theorem tp_136 : tkPlaces Tryz.prog 136 = none := by kernel_rfl
@[go_sem] theorem ta_136 : tkArr Tryz.prog 136 = none := by kernel_rfl
@[go_sem] theorem tb_136 : tkBytes Tryz.prog 136 = some 1 := by kernel_rfl
@[go_sem] theorem tn_136 : notInt Tryz.prog 136 = false := by kernel_rfl
@[go_sem] theorem tz_136 : tkZero Tryz.prog 136 = some [.int .u8 0] := by kernel_rfl
attribute [go_sem] Tryz.underlying148
@[go_sem] theorem tk_148 : tk Tryz.prog 148 = some (3, true) := by kernel_rfl
@[go_sem] theorem tf_148_0 : tkField Tryz.prog 148 0 = some (0, 1, false) := by kernel_rfl
@[go_sem] theorem tf_148_1 : tkField Tryz.prog 148 1 = some (1, 1, false) := by kernel_rfl
@[go_sem] theorem tf_148_2 : tkField Tryz.prog 148 2 = some (2, 1, false) := by kernel_rfl
@[go_sem] theorem tp_148 : tkPlaces Tryz.prog 148 = some [(0, 1), (1, 1), (2, 1)] := by kernel_rfl
@[go_sem] theorem ta_148 : tkArr Tryz.prog 148 = none := by kernel_rfl
@[go_sem] theorem tb_148 : tkBytes Tryz.prog 148 = some 40 := by kernel_rfl
@[go_sem] theorem tn_148 : notInt Tryz.prog 148 = true := by kernel_rfl
@[go_sem] theorem tz_148 : tkZero Tryz.prog 148 = some [.int .i64 0, .slice none 0 0, .bool false] := by kernel_rfl
attribute [go_sem] Tryz.underlying150
@[go_sem] theorem tk_150 : tk Tryz.prog 150 = some (3, true) := by kernel_rfl
@[go_sem] theorem tf_150_0 : tkField Tryz.prog 150 0 = some (0, 1, false) := by kernel_rfl
@[go_sem] theorem tf_150_1 : tkField Tryz.prog 150 1 = some (1, 1, false) := by kernel_rfl
@[go_sem] theorem tf_150_2 : tkField Tryz.prog 150 2 = some (2, 1, false) := by kernel_rfl
@[go_sem] theorem tp_150 : tkPlaces Tryz.prog 150 = some [(0, 1), (1, 1), (2, 1)] := by kernel_rfl
@[go_sem] theorem ta_150 : tkArr Tryz.prog 150 = none := by kernel_rfl
@[go_sem] theorem tb_150 : tkBytes Tryz.prog 150 = some 40 := by kernel_rfl
@[go_sem] theorem tn_150 : notInt Tryz.prog 150 = true := by kernel_rfl
@[go_sem] theorem tz_150 : tkZero Tryz.prog 150 = some [.int .i64 0, .int .i64 0, .slice none 0 0] := by kernel_rfl
attribute [go_sem] Tryz.underlying162
@[go_sem] theorem tk_162 : tk Tryz.prog 162 = some (1, false) := by kernel_rfl
@[go_sem] theorem tp_162 : tkPlaces Tryz.prog 162 = none := by kernel_rfl
@[go_sem] theorem ta_162 : tkArr Tryz.prog 162 = none := by kernel_rfl
@[go_sem] theorem tb_162 : tkBytes Tryz.prog 162 = some 8 := by kernel_rfl
@[go_sem] theorem tn_162 : notInt Tryz.prog 162 = true := by kernel_rfl
@[go_sem] theorem tz_162 : tkZero Tryz.prog 162 = some [.nilFunc] := by kernel_rfl
attribute [go_sem] Tryz.underlying194
@[go_sem] theorem tk_194 : tk Tryz.prog 194 = some (1, false) := by kernel_rfl
@[go_sem] theorem tp_194 : tkPlaces Tryz.prog 194 = none := by kernel_rfl
@[go_sem] theorem ta_194 : tkArr Tryz.prog 194 = none := by kernel_rfl
@[go_sem] theorem tb_194 : tkBytes Tryz.prog 194 = some 8 := by kernel_rfl
@[go_sem] theorem tn_194 : notInt Tryz.prog 194 = true := by kernel_rfl
@[go_sem] theorem tz_194 : tkZero Tryz.prog 194 = some [.nilFunc] := by kernel_rfl
attribute [go_sem] Tryz.underlying205
@[go_sem] theorem tk_205 : tk Tryz.prog 205 = some (4, true) := by kernel_rfl
@[go_sem] theorem tp_205 : tkPlaces Tryz.prog 205 = none := by kernel_rfl
@[go_sem] theorem ta_205 : tkArr Tryz.prog 205 = some 4 := by kernel_rfl
@[go_sem] theorem te_205 : tkElem Tryz.prog 205 = some (1, false) := by kernel_rfl
@[go_sem] theorem tb_205 : tkBytes Tryz.prog 205 = some 4 := by kernel_rfl
@[go_sem] theorem tn_205 : notInt Tryz.prog 205 = true := by kernel_rfl
@[go_sem] theorem tz_205 : tkZero Tryz.prog 205 = some [.int .u8 0, .int .u8 0, .int .u8 0, .int .u8 0] := by kernel_rfl
attribute [go_sem] Tryz.underlying207
@[go_sem] theorem tk_207 : tk Tryz.prog 207 = some (1, false) := by kernel_rfl
@[go_sem] theorem tp_207 : tkPlaces Tryz.prog 207 = none := by kernel_rfl
@[go_sem] theorem ta_207 : tkArr Tryz.prog 207 = none := by kernel_rfl
@[go_sem] theorem tb_207 : tkBytes Tryz.prog 207 = some 4 := by kernel_rfl
@[go_sem] theorem tn_207 : notInt Tryz.prog 207 = false := by kernel_rfl
@[go_sem] theorem tz_207 : tkZero Tryz.prog 207 = some [.int .u32 0] := by kernel_rfl
end
end Go.Proofs.YtdnhcpbammfmlaaGreatDoor
namespace Go.Proofs.YtdnhcpbammfmlaaGreatDoor
open Go Go.Av
section
@[go_sem] theorem rs_3 : Tryz.f3.results.toList = [.tmp 6] := by rfl
@[go_sem] theorem rs_4 : Tryz.f4.results.toList = [.tmp 8] := by rfl
theorem cl_5 : callable Tryz.prog 5 = true := by kernel_rfl
@[go_sem] theorem rs_5 : Tryz.f5.results.toList = [.tmp 10] := by rfl
theorem cl_6 : callable Tryz.prog 6 = true := by kernel_rfl
@[go_sem] theorem rs_6 : Tryz.f6.results.toList = [.tmp 0] := by rfl
theorem cl_7 : callable Tryz.prog 7 = true := by kernel_rfl
@[go_sem] theorem rs_7 : Tryz.f7.results.toList = [.tmp 2, .tmp 3] := by rfl
@[go_sem] theorem rs_8 : Tryz.f8.results.toList = [.tmp 2, .tmp 3] := by rfl
theorem cl_9 : callable Tryz.prog 9 = true := by kernel_rfl
@[go_sem] theorem rs_9 : Tryz.f9.results.toList = [.tmp 4] := by rfl
theorem cl_10 : callable Tryz.prog 10 = true := by kernel_rfl
@[go_sem] theorem rs_10 : Tryz.f10.results.toList = [.tmp 2] := by rfl
theorem cl_11 : callable Tryz.prog 11 = true := by kernel_rfl
@[go_sem] theorem rs_11 : Tryz.f11.results.toList = [.tmp 2] := by rfl
@[go_sem] theorem rs_12 : Tryz.f12.results.toList = [.tmp 2] := by rfl
theorem cl_13 : callable Tryz.prog 13 = true := by kernel_rfl
@[go_sem] theorem rs_13 : Tryz.f13.results.toList = [.tmp 2] := by rfl
theorem cl_14 : callable Tryz.prog 14 = true := by kernel_rfl
@[go_sem] theorem rs_14 : Tryz.f14.results.toList = [.tmp 2] := by rfl
@[go_sem] theorem rs_15 : Tryz.f15.results.toList = [.tmp 4] := by rfl
@[go_sem] theorem rs_16 : Tryz.f16.results.toList = [.tmp 2] := by rfl
@[go_sem] theorem rs_17 : Tryz.f17.results.toList = [.tmp 2] := by rfl
theorem cl_18 : callable Tryz.prog 18 = true := by kernel_rfl
@[go_sem] theorem rs_18 : Tryz.f18.results.toList = [.tmp 0, .tmp 1] := by rfl
@[go_sem] theorem rs_19 : Tryz.f19.results.toList = [.cell 2 51, .tmp 3] := by rfl
@[go_sem] theorem rs_20 : Tryz.f20.results.toList = [.tmp 8, .cell 9 51, .tmp 10] := by rfl
theorem cl_21 : callable Tryz.prog 21 = true := by kernel_rfl
@[go_sem] theorem rs_21 : Tryz.f21.results.toList = [.cell 8 22, .cell 9 27] := by rfl
@[go_sem] theorem rs_22 : Tryz.f22.results.toList = [.tmp 8, .tmp 9] := by rfl
theorem cl_23 : callable Tryz.prog 23 = true := by kernel_rfl
@[go_sem] theorem rs_23 : Tryz.f23.results.toList = [.tmp 10] := by rfl
theorem cl_24 : callable Tryz.prog 24 = true := by kernel_rfl
@[go_sem] theorem rs_24 : Tryz.f24.results.toList = [] := by rfl
theorem cl_25 : callable Tryz.prog 25 = true := by kernel_rfl
@[go_sem] theorem rs_25 : Tryz.f25.results.toList = [] := by rfl
theorem cl_26 : callable Tryz.prog 26 = true := by kernel_rfl
@[go_sem] theorem rs_26 : Tryz.f26.results.toList = [.tmp 2, .tmp 3] := by rfl
theorem cl_27 : callable Tryz.prog 27 = true := by kernel_rfl
@[go_sem] theorem rs_27 : Tryz.f27.results.toList = [.tmp 2] := by rfl
theorem cl_28 : callable Tryz.prog 28 = true := by kernel_rfl
@[go_sem] theorem rs_28 : Tryz.f28.results.toList = [.tmp 4] := by rfl
theorem cl_29 : callable Tryz.prog 29 = true := by kernel_rfl
@[go_sem] theorem rs_29 : Tryz.f29.results.toList = [.tmp 2] := by rfl
theorem cl_30 : callable Tryz.prog 30 = true := by kernel_rfl
@[go_sem] theorem rs_30 : Tryz.f30.results.toList = [.tmp 2] := by rfl
theorem cl_31 : callable Tryz.prog 31 = true := by kernel_rfl
@[go_sem] theorem rs_31 : Tryz.f31.results.toList = [.tmp 2] := by rfl
theorem cl_32 : callable Tryz.prog 32 = true := by kernel_rfl
@[go_sem] theorem rs_32 : Tryz.f32.results.toList = [.tmp 6] := by rfl
theorem cl_33 : callable Tryz.prog 33 = true := by kernel_rfl
@[go_sem] theorem rs_33 : Tryz.f33.results.toList = [.tmp 2] := by rfl
@[go_sem] theorem rs_34 : Tryz.f34.results.toList = [.cell 4 78, .tmp 5] := by rfl
@[go_sem] theorem rs_35 : Tryz.f35.results.toList = [.cell 2 78, .tmp 3] := by rfl
@[go_sem] theorem rs_36 : Tryz.f36.results.toList = [.tmp 2] := by rfl
theorem cl_37 : callable Tryz.prog 37 = true := by kernel_rfl
@[go_sem] theorem rs_37 : Tryz.f37.results.toList = [.tmp 4] := by rfl
theorem cl_38 : callable Tryz.prog 38 = true := by kernel_rfl
@[go_sem] theorem rs_38 : Tryz.f38.results.toList = [.tmp 4] := by rfl
theorem cl_39 : callable Tryz.prog 39 = true := by kernel_rfl
@[go_sem] theorem rs_39 : Tryz.f39.results.toList = [.tmp 4] := by rfl
@[go_sem] theorem rs_40 : Tryz.f40.results.toList = [.tmp 4] := by rfl
@[go_sem] theorem rs_41 : Tryz.f41.results.toList = [.tmp 4] := by rfl
theorem cl_42 : callable Tryz.prog 42 = true := by kernel_rfl
@[go_sem] theorem rs_42 : Tryz.f42.results.toList = [.tmp 2, .tmp 3] := by rfl
@[go_sem] theorem rs_43 : Tryz.f43.results.toList = [.tmp 2] := by rfl
@[go_sem] theorem rs_44 : Tryz.f44.results.toList = [.tmp 2, .tmp 3] := by rfl
@[go_sem] theorem rs_45 : Tryz.f45.results.toList = [.cell 4 49] := by rfl
@[go_sem] theorem rs_46 : Tryz.f46.results.toList = [.cell 10 51, .tmp 11] := by rfl
@[go_sem] theorem rs_47 : Tryz.f47.results.toList = [.cell 4 49] := by rfl
theorem cl_48 : callable Tryz.prog 48 = true := by kernel_rfl
@[go_sem] theorem rs_48 : Tryz.f48.results.toList = [] := by rfl
theorem cl_49 : callable Tryz.prog 49 = true := by kernel_rfl
@[go_sem] theorem rs_49 : Tryz.f49.results.toList = [.tmp 8, .tmp 9] := by rfl
theorem cl_50 : callable Tryz.prog 50 = true := by kernel_rfl
@[go_sem] theorem rs_50 : Tryz.f50.results.toList = [] := by rfl
@[go_sem] theorem rs_51 : Tryz.f51.results.toList = [.tmp 8, .tmp 9, .tmp 10] := by rfl
theorem cl_52 : callable Tryz.prog 52 = true := by kernel_rfl
@[go_sem] theorem rs_52 : Tryz.f52.results.toList = [.tmp 8] := by rfl
theorem cl_53 : callable Tryz.prog 53 = true := by kernel_rfl
@[go_sem] theorem rs_53 : Tryz.f53.results.toList = [.tmp 6] := by rfl
theorem cl_54 : callable Tryz.prog 54 = true := by kernel_rfl
@[go_sem] theorem rs_54 : Tryz.f54.results.toList = [.tmp 2] := by rfl
theorem cl_55 : callable Tryz.prog 55 = true := by kernel_rfl
@[go_sem] theorem rs_55 : Tryz.f55.results.toList = [] := by rfl
theorem cl_56 : callable Tryz.prog 56 = true := by kernel_rfl
@[go_sem] theorem rs_56 : Tryz.f56.results.toList = [.tmp 2] := by rfl
@[go_sem] theorem rs_57 : Tryz.f57.results.toList = [.tmp 2] := by rfl
theorem cl_58 : callable Tryz.prog 58 = true := by kernel_rfl
@[go_sem] theorem rs_58 : Tryz.f58.results.toList = [.tmp 2] := by rfl
theorem cl_59 : callable Tryz.prog 59 = true := by kernel_rfl
@[go_sem] theorem rs_59 : Tryz.f59.results.toList = [.tmp 2, .tmp 3] := by rfl
theorem cl_60 : callable Tryz.prog 60 = true := by kernel_rfl
@[go_sem] theorem rs_60 : Tryz.f60.results.toList = [] := by rfl
theorem cl_61 : callable Tryz.prog 61 = true := by kernel_rfl
@[go_sem] theorem rs_61 : Tryz.f61.results.toList = [.tmp 2] := by rfl
@[go_sem] theorem rs_62 : Tryz.f62.results.toList = [.cell 4 78] := by rfl
@[go_sem] theorem rs_67 : Tryz.f67.results.toList = [.tmp 2] := by rfl
@[go_sem] theorem rs_68 : Tryz.f68.results.toList = [.tmp 4] := by rfl
@[go_sem] theorem rs_69 : Tryz.f69.results.toList = [.tmp 2] := by rfl
@[go_sem] theorem rs_70 : Tryz.f70.results.toList = [.tmp 2] := by rfl
@[go_sem] theorem rs_71 : Tryz.f71.results.toList = [.cell 8 51, .tmp 9] := by rfl
@[go_sem] theorem rs_72 : Tryz.f72.results.toList = [.cell 2 51, .tmp 3] := by rfl
@[go_sem] theorem rs_73 : Tryz.f73.results.toList = [.tmp 6] := by rfl
theorem cl_74 : callable Tryz.prog 74 = true := by kernel_rfl
@[go_sem] theorem rs_74 : Tryz.f74.results.toList = [.cell 6 150, .tmp 7] := by rfl
@[go_sem] theorem rs_75 : Tryz.f75.results.toList = [.cell 6 150, .tmp 7] := by rfl
theorem cl_76 : callable Tryz.prog 76 = true := by kernel_rfl
@[go_sem] theorem rs_76 : Tryz.f76.results.toList = [.tmp 2, .tmp 3] := by rfl
theorem cl_77 : callable Tryz.prog 77 = true := by kernel_rfl
@[go_sem] theorem rs_77 : Tryz.f77.results.toList = [.tmp 6] := by rfl
theorem cl_78 : callable Tryz.prog 78 = true := by kernel_rfl
@[go_sem] theorem rs_78 : Tryz.f78.results.toList = [.tmp 2] := by rfl
theorem cl_79 : callable Tryz.prog 79 = true := by kernel_rfl
@[go_sem] theorem rs_79 : Tryz.f79.results.toList = [.tmp 2] := by rfl
theorem cl_80 : callable Tryz.prog 80 = true := by kernel_rfl
@[go_sem] theorem rs_80 : Tryz.f80.results.toList = [.tmp 2] := by rfl
theorem cl_81 : callable Tryz.prog 81 = true := by kernel_rfl
@[go_sem] theorem rs_81 : Tryz.f81.results.toList = [.tmp 2] := by rfl
theorem cl_82 : callable Tryz.prog 82 = true := by kernel_rfl
@[go_sem] theorem rs_82 : Tryz.f82.results.toList = [.tmp 2] := by rfl
theorem cl_83 : callable Tryz.prog 83 = true := by kernel_rfl
@[go_sem] theorem rs_83 : Tryz.f83.results.toList = [.tmp 2] := by rfl
theorem cl_84 : callable Tryz.prog 84 = true := by kernel_rfl
@[go_sem] theorem rs_84 : Tryz.f84.results.toList = [.cell 4 23] := by rfl
theorem cl_85 : callable Tryz.prog 85 = true := by kernel_rfl
@[go_sem] theorem rs_85 : Tryz.f85.results.toList = [.tmp 2] := by rfl
theorem cl_86 : callable Tryz.prog 86 = true := by kernel_rfl
@[go_sem] theorem rs_86 : Tryz.f86.results.toList = [.tmp 2] := by rfl
@[go_sem] theorem rs_90 : Tryz.f90.results.toList = [.tmp 4] := by rfl
@[go_sem] theorem rs_91 : Tryz.f91.results.toList = [.tmp 2, .tmp 3] := by rfl
@[go_sem] theorem rs_92 : Tryz.f92.results.toList = [.cell 6 49, .tmp 7] := by rfl
@[go_sem] theorem rs_93 : Tryz.f93.results.toList = [.cell 2 49, .tmp 3] := by rfl
@[go_sem] theorem rs_94 : Tryz.f94.results.toList = [.tmp 6] := by rfl
theorem cl_95 : callable Tryz.prog 95 = true := by kernel_rfl
@[go_sem] theorem rs_95 : Tryz.f95.results.toList = [.tmp 4, .tmp 5] := by rfl
theorem cl_96 : callable Tryz.prog 96 = true := by kernel_rfl
@[go_sem] theorem rs_96 : Tryz.f96.results.toList = [.cell 2 150, .tmp 3] := by rfl
@[go_sem] theorem rs_97 : Tryz.f97.results.toList = [.tmp 4, .tmp 5] := by rfl
@[go_sem] theorem rs_98 : Tryz.f98.results.toList = [.cell 2 150, .tmp 3] := by rfl
theorem cl_99 : callable Tryz.prog 99 = true := by kernel_rfl
@[go_sem] theorem rs_99 : Tryz.f99.results.toList = [.tmp 2] := by rfl
theorem cl_100 : callable Tryz.prog 100 = true := by kernel_rfl
@[go_sem] theorem rs_100 : Tryz.f100.results.toList = [.tmp 2] := by rfl
theorem cl_101 : callable Tryz.prog 101 = true := by kernel_rfl
@[go_sem] theorem rs_101 : Tryz.f101.results.toList = [.tmp 6] := by rfl
theorem cl_102 : callable Tryz.prog 102 = true := by kernel_rfl
@[go_sem] theorem rs_102 : Tryz.f102.results.toList = [.tmp 8] := by rfl
theorem cl_103 : callable Tryz.prog 103 = true := by kernel_rfl
@[go_sem] theorem rs_103 : Tryz.f103.results.toList = [.tmp 4] := by rfl
theorem cl_104 : callable Tryz.prog 104 = true := by kernel_rfl
@[go_sem] theorem rs_104 : Tryz.f104.results.toList = [.tmp 2] := by rfl
theorem cl_106 : callable Tryz.prog 106 = true := by kernel_rfl
@[go_sem] theorem rs_106 : Tryz.f106.results.toList = [.tmp 2] := by rfl
theorem cl_108 : callable Tryz.prog 108 = true := by kernel_rfl
@[go_sem] theorem rs_108 : Tryz.f108.results.toList = [] := by rfl
theorem cl_109 : callable Tryz.prog 109 = true := by kernel_rfl
@[go_sem] theorem rs_109 : Tryz.f109.results.toList = [.tmp 2] := by rfl
@[go_sem] theorem rs_110 : Tryz.f110.results.toList = [.tmp 2] := by rfl
@[go_sem] theorem rs_111 : Tryz.f111.results.toList = [.tmp 2] := by rfl
@[go_sem] theorem rs_112 : Tryz.f112.results.toList = [.tmp 4] := by rfl
@[go_sem] theorem rs_113 : Tryz.f113.results.toList = [.cell 4 49, .tmp 5] := by rfl
@[go_sem] theorem rs_114 : Tryz.f114.results.toList = [.cell 2 49, .tmp 3] := by rfl
theorem cl_115 : callable Tryz.prog 115 = true := by kernel_rfl
@[go_sem] theorem rs_115 : Tryz.f115.results.toList = [.tmp 2] := by rfl
@[go_sem] theorem rs_116 : Tryz.f116.results.toList = [.tmp 2] := by rfl
theorem cl_117 : callable Tryz.prog 117 = true := by kernel_rfl
@[go_sem] theorem rs_117 : Tryz.f117.results.toList = [.cell 2 205] := by rfl
theorem cl_118 : callable Tryz.prog 118 = true := by kernel_rfl
@[go_sem] theorem rs_118 : Tryz.f118.results.toList = [.tmp 2] := by rfl
theorem cl_119 : callable Tryz.prog 119 = true := by kernel_rfl
@[go_sem] theorem rs_119 : Tryz.f119.results.toList = [.tmp 4] := by rfl
theorem cl_120 : callable Tryz.prog 120 = true := by kernel_rfl
@[go_sem] theorem rs_120 : Tryz.f120.results.toList = [.tmp 4] := by rfl
theorem cl_123 : callable Tryz.prog 123 = true := by kernel_rfl
@[go_sem] theorem rs_123 : Tryz.f123.results.toList = [] := by rfl
@[go_sem] theorem rs_124 : Tryz.f124.results.toList = [.tmp 2] := by rfl
theorem cl_125 : callable Tryz.prog 125 = true := by kernel_rfl
@[go_sem] theorem rs_125 : Tryz.f125.results.toList = [.tmp 4] := by rfl
theorem cl_137 : callable Tryz.prog 137 = true := by kernel_rfl
@[go_sem] theorem rs_137 : Tryz.f137.results.toList = [.tmp 2] := by rfl
@[go_sem] theorem rs_164 : Tryz.f164.results.toList = [.tmp 2] := by rfl
attribute [go_sem] Tryz.ntmps3 Tryz.ntmps4 Tryz.ntmps5 Tryz.ntmps6 Tryz.ntmps7 Tryz.ntmps8 Tryz.ntmps9 Tryz.ntmps10 Tryz.ntmps11 Tryz.ntmps12 Tryz.ntmps13 Tryz.ntmps14 Tryz.ntmps15 Tryz.ntmps16 Tryz.ntmps17 Tryz.ntmps18 Tryz.ntmps19 Tryz.ntmps20 Tryz.ntmps21 Tryz.ntmps22
attribute [go_sem] Tryz.ntmps23 Tryz.ntmps24 Tryz.ntmps25 Tryz.ntmps26 Tryz.ntmps27 Tryz.ntmps28 Tryz.ntmps29 Tryz.ntmps30 Tryz.ntmps31 Tryz.ntmps32 Tryz.ntmps33 Tryz.ntmps34 Tryz.ntmps35 Tryz.ntmps36 Tryz.ntmps37 Tryz.ntmps38 Tryz.ntmps39 Tryz.ntmps40 Tryz.ntmps41 Tryz.ntmps42
attribute [go_sem] Tryz.ntmps43 Tryz.ntmps44 Tryz.ntmps45 Tryz.ntmps46 Tryz.ntmps47 Tryz.ntmps48 Tryz.ntmps49 Tryz.ntmps50 Tryz.ntmps51 Tryz.ntmps52 Tryz.ntmps53 Tryz.ntmps54 Tryz.ntmps55 Tryz.ntmps56 Tryz.ntmps57 Tryz.ntmps58 Tryz.ntmps59 Tryz.ntmps60 Tryz.ntmps61 Tryz.ntmps62
attribute [go_sem] Tryz.ntmps66 Tryz.ntmps67 Tryz.ntmps68 Tryz.ntmps69 Tryz.ntmps70 Tryz.ntmps71 Tryz.ntmps72 Tryz.ntmps73 Tryz.ntmps74 Tryz.ntmps75 Tryz.ntmps76 Tryz.ntmps77 Tryz.ntmps78 Tryz.ntmps79 Tryz.ntmps80 Tryz.ntmps81 Tryz.ntmps82 Tryz.ntmps83 Tryz.ntmps84 Tryz.ntmps85
attribute [go_sem] Tryz.ntmps86 Tryz.ntmps90 Tryz.ntmps91 Tryz.ntmps92 Tryz.ntmps93 Tryz.ntmps94 Tryz.ntmps95 Tryz.ntmps96 Tryz.ntmps97 Tryz.ntmps98 Tryz.ntmps99 Tryz.ntmps100 Tryz.ntmps101 Tryz.ntmps102 Tryz.ntmps103 Tryz.ntmps104 Tryz.ntmps106 Tryz.ntmps107 Tryz.ntmps108 Tryz.ntmps109
attribute [go_sem] Tryz.ntmps110 Tryz.ntmps111 Tryz.ntmps112 Tryz.ntmps113 Tryz.ntmps114 Tryz.ntmps115 Tryz.ntmps116 Tryz.ntmps117 Tryz.ntmps118 Tryz.ntmps119 Tryz.ntmps120 Tryz.ntmps121 Tryz.ntmps122 Tryz.ntmps123 Tryz.ntmps124 Tryz.ntmps125 Tryz.ntmps126 Tryz.ntmps127 Tryz.ntmps128 Tryz.ntmps129
attribute [go_sem] Tryz.ntmps130 Tryz.ntmps131 Tryz.ntmps132 Tryz.ntmps133 Tryz.ntmps134 Tryz.ntmps135 Tryz.ntmps136 Tryz.ntmps137 Tryz.ntmps138 Tryz.ntmps139 Tryz.ntmps140 Tryz.ntmps141 Tryz.ntmps142 Tryz.ntmps143 Tryz.ntmps144 Tryz.ntmps164 Tryz.ntmps183
end
end Go.Proofs.YtdnhcpbammfmlaaGreatDoor
namespace Go.Proofs.YtdnhcpbammfmlaaGreatDoor
open Go Go.Shelf
section
def sortA_ren : Go.Shelf.Ren := ⟨fun | 5 => 107 | 8 => 122 | 7 => 121 | 19 => 135 | 20 => 136 | 10 => 126 | 11 => 127 | 12 => 128 | 13 => 129 | 14 => 130 | 15 => 131 | 16 => 132 | 17 => 133 | 18 => 134 | 30 => 138 | 31 => 139 | 32 => 140 | 33 => 141 | 34 => 142 | 35 => 143 | 40 => 144 | n => n, fun | 23 => 56 | 25 => 3 | 3 => 3 | 32 => 126 | 22 => 56 | 0 => 0 | 44 => 207 | 46 => 68 | 4 => 4 | 36 => 217 | 35 => 216 | 41 => 222 | 5 => 5 | 9 => 9 | 53 => 226 | 57 => 229 | 63 => 231 | 64 => 95 | n => n, fun | n => n⟩
theorem sortA : Go.Proofs.SlLaysM.n5 Tryz.prog sortA_ren where
 mixed := by kernel_rfl
 f5 := ⟨Tryz.f107.name, by decide, Tryz.func107.trans (congrArg some (by kernel_rfl))⟩
 f7 := ⟨Tryz.f121.name, by decide, Tryz.func121.trans (congrArg some (by kernel_rfl))⟩
 f8 := Tryz.func122.trans (congrArg some (by kernel_rfl))
 f10 := ⟨Tryz.f126.name, by decide, Tryz.func126.trans (congrArg some (by kernel_rfl))⟩
 f11 := ⟨Tryz.f127.name, by decide, Tryz.func127.trans (congrArg some (by kernel_rfl))⟩
 f12 := ⟨Tryz.f128.name, by decide, Tryz.func128.trans (congrArg some (by kernel_rfl))⟩
 f13 := ⟨Tryz.f129.name, by decide, Tryz.func129.trans (congrArg some (by kernel_rfl))⟩
 f14 := ⟨Tryz.f130.name, by decide, Tryz.func130.trans (congrArg some (by kernel_rfl))⟩
 f15 := ⟨Tryz.f131.name, by decide, Tryz.func131.trans (congrArg some (by kernel_rfl))⟩
 f16 := ⟨Tryz.f132.name, by decide, Tryz.func132.trans (congrArg some (by kernel_rfl))⟩
 f17 := ⟨Tryz.f133.name, by decide, Tryz.func133.trans (congrArg some (by kernel_rfl))⟩
 f18 := ⟨Tryz.f134.name, by decide, Tryz.func134.trans (congrArg some (by kernel_rfl))⟩
 f19 := Tryz.func135.trans (congrArg some (by kernel_rfl))
 f20 := Tryz.func136.trans (congrArg some (by kernel_rfl))
 f30 := ⟨Tryz.f138.name, by decide, Tryz.func138.trans (congrArg some (by kernel_rfl))⟩
 f31 := Tryz.func139.trans (congrArg some (by kernel_rfl))
 f32 := Tryz.func140.trans (congrArg some (by kernel_rfl))
 f33 := ⟨Tryz.f141.name, by decide, Tryz.func141.trans (congrArg some (by kernel_rfl))⟩
 f34 := ⟨Tryz.f142.name, by decide, Tryz.func142.trans (congrArg some (by kernel_rfl))⟩
 f35 := ⟨Tryz.f143.name, by decide, Tryz.func143.trans (congrArg some (by kernel_rfl))⟩
 f40 := ⟨Tryz.f144.name, by decide, Tryz.func144.trans (congrArg some (by kernel_rfl))⟩
 t0 := Tryz.underlying0
 a0 := Tryz.isAgg0
 z0 := Tryz.sizeOf0
 v0 := Tryz.zeroValue0
 t3 := Tryz.underlying3
 a3 := Tryz.isAgg3
 z3 := Tryz.sizeOf3
 v3 := Tryz.zeroValue3
 t4 := Tryz.underlying4
 a4 := Tryz.isAgg4
 z4 := Tryz.sizeOf4
 v4 := Tryz.zeroValue4
 t5 := Tryz.underlying5
 a5 := Tryz.isAgg5
 z5 := Tryz.sizeOf5
 v5 := Tryz.zeroValue5
 t9 := Tryz.underlying9
 a9 := Tryz.isAgg9
 z9 := Tryz.sizeOf9
 v9 := Tryz.zeroValue9
 t22 := Tryz.underlying56
 a22 := Tryz.isAgg56
 z22 := Tryz.sizeOf56
 v22 := Tryz.zeroValue56
 t23 := Tryz.underlying56
 a23 := Tryz.isAgg56
 z23 := Tryz.sizeOf56
 v23 := Tryz.zeroValue56
 t25 := Tryz.underlying3
 a25 := Tryz.isAgg3
 z25 := Tryz.sizeOf3
 v25 := Tryz.zeroValue3
 t32 := Tryz.underlying126
 a32 := Tryz.isAgg126
 z32 := Tryz.sizeOf126
 v32 := Tryz.zeroValue126
 t35 := Tryz.underlying216
 a35 := Tryz.isAgg216
 z35 := Tryz.sizeOf216
 v35 := Tryz.zeroValue216
 t36 := Tryz.underlying217
 a36 := Tryz.isAgg217
 z36 := Tryz.sizeOf217
 v36 := Tryz.zeroValue217
 t41 := Tryz.underlying222
 a41 := Tryz.isAgg222
 z41 := Tryz.sizeOf222
 v41 := Tryz.zeroValue222
 t44 := Tryz.underlying207
 a44 := Tryz.isAgg207
 z44 := Tryz.sizeOf207
 v44 := Tryz.zeroValue207
 t46 := Tryz.underlying68
 a46 := Tryz.isAgg68
 z46 := Tryz.sizeOf68
 v46 := Tryz.zeroValue68
 t53 := Tryz.underlying226
 a53 := Tryz.isAgg226
 z53 := Tryz.sizeOf226
 v53 := Tryz.zeroValue226
 t57 := Tryz.underlying229
 a57 := Tryz.isAgg229
 z57 := Tryz.sizeOf229
 v57 := Tryz.zeroValue229
 t63 := Tryz.underlying231
 a63 := Tryz.isAgg231
 z63 := Tryz.sizeOf231
 v63 := Tryz.zeroValue231
 t64 := Tryz.underlying95
 a64 := Tryz.isAgg95
 z64 := Tryz.sizeOf95
 v64 := Tryz.zeroValue95
end
end Go.Proofs.YtdnhcpbammfmlaaGreatDoor
