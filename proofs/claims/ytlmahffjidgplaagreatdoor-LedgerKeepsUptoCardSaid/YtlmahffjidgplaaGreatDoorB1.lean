/- A part of the proof: what the calls do, told by values. -/
import Derived.Test.YtlmahffjidgplaaGreatDoorA2
import Derived.Test.YtlmahffjidgplaaGreatDoorProg
import Derived.KernelRfl
import Derived.Shelf.SlLaysM
section
namespace Go.Proofs.YtlmahffjidgplaaGreatDoor
open Go Go.Av
set_option maxRecDepth 100000
attribute [go_sem] Tryz.underlying3
@[go_sem] theorem tk_3 : tk Tryz.prog 3 = some (1, false) := by kernel_rfl
@[go_sem] theorem tp_3 : tkPlaces Tryz.prog 3 = none := by kernel_rfl
@[go_sem] theorem ta_3 : tkArr Tryz.prog 3 = none := by kernel_rfl
@[go_sem] theorem tb_3 : tkBytes Tryz.prog 3 = some 8 := by kernel_rfl
@[go_sem] theorem tn_3 : notInt Tryz.prog 3 = false := by kernel_rfl
@[go_sem] theorem tz_3 : tkZero Tryz.prog 3 = some [.int .i64 0] := by kernel_rfl
attribute [go_sem] Tryz.underlying4
@[go_sem] theorem tk_4 : tk Tryz.prog 4 = some (1, false) := by kernel_rfl
@[go_sem] theorem tp_4 : tkPlaces Tryz.prog 4 = none := by kernel_rfl
@[go_sem] theorem ta_4 : tkArr Tryz.prog 4 = none := by kernel_rfl
@[go_sem] theorem tb_4 : tkBytes Tryz.prog 4 = some 1 := by kernel_rfl
@[go_sem] theorem tn_4 : notInt Tryz.prog 4 = true := by kernel_rfl
@[go_sem] theorem tz_4 : tkZero Tryz.prog 4 = some [.bool false] := by kernel_rfl
attribute [go_sem] Tryz.underlying5
@[go_sem] theorem tk_5 : tk Tryz.prog 5 = some (1, false) := by kernel_rfl
@[go_sem] theorem tp_5 : tkPlaces Tryz.prog 5 = none := by kernel_rfl
@[go_sem] theorem ta_5 : tkArr Tryz.prog 5 = none := by kernel_rfl
@[go_sem] theorem tb_5 : tkBytes Tryz.prog 5 = some 1 := by kernel_rfl
@[go_sem] theorem tn_5 : notInt Tryz.prog 5 = false := by kernel_rfl
@[go_sem] theorem tz_5 : tkZero Tryz.prog 5 = some [.int .u8 0] := by kernel_rfl
attribute [go_sem] Tryz.underlying9
@[go_sem] theorem tk_9 : tk Tryz.prog 9 = some (1, false) := by kernel_rfl
@[go_sem] theorem tp_9 : tkPlaces Tryz.prog 9 = none := by kernel_rfl
@[go_sem] theorem ta_9 : tkArr Tryz.prog 9 = none := by kernel_rfl
@[go_sem] theorem tb_9 : tkBytes Tryz.prog 9 = some 16 := by kernel_rfl
@[go_sem] theorem tn_9 : notInt Tryz.prog 9 = true := by kernel_rfl
@[go_sem] theorem tz_9 : tkZero Tryz.prog 9 = some [.string ⟨#[]⟩] := by kernel_rfl
attribute [go_sem] Tryz.underlying17
@[go_sem] theorem tk_17 : tk Tryz.prog 17 = some (1, false) := by kernel_rfl
@[go_sem] theorem tp_17 : tkPlaces Tryz.prog 17 = none := by kernel_rfl
@[go_sem] theorem ta_17 : tkArr Tryz.prog 17 = none := by kernel_rfl
@[go_sem] theorem tb_17 : tkBytes Tryz.prog 17 = some 8 := by kernel_rfl
@[go_sem] theorem tn_17 : notInt Tryz.prog 17 = true := by kernel_rfl
@[go_sem] theorem tz_17 : tkZero Tryz.prog 17 = some [.pointer none] := by kernel_rfl
attribute [go_sem] Tryz.underlying20
@[go_sem] theorem tk_20 : tk Tryz.prog 20 = some (1, false) := by kernel_rfl
@[go_sem] theorem tp_20 : tkPlaces Tryz.prog 20 = none := by kernel_rfl
@[go_sem] theorem ta_20 : tkArr Tryz.prog 20 = none := by kernel_rfl
@[go_sem] theorem tb_20 : tkBytes Tryz.prog 20 = some 16 := by kernel_rfl
@[go_sem] theorem tn_20 : notInt Tryz.prog 20 = true := by kernel_rfl
@[go_sem] theorem tz_20 : tkZero Tryz.prog 20 = some [.nilIface] := by kernel_rfl
attribute [go_sem] Tryz.underlying22
@[go_sem] theorem tk_22 : tk Tryz.prog 22 = some (1, false) := by kernel_rfl
@[go_sem] theorem tp_22 : tkPlaces Tryz.prog 22 = none := by kernel_rfl
@[go_sem] theorem ta_22 : tkArr Tryz.prog 22 = none := by kernel_rfl
@[go_sem] theorem te_22 : tkElem Tryz.prog 22 = some (2, true) := by kernel_rfl
@[go_sem] theorem tb_22 : tkBytes Tryz.prog 22 = some 24 := by kernel_rfl
@[go_sem] theorem tn_22 : notInt Tryz.prog 22 = true := by kernel_rfl
@[go_sem] theorem tz_22 : tkZero Tryz.prog 22 = some [.slice none 0 0] := by kernel_rfl
attribute [go_sem] Tryz.underlying24
@[go_sem] theorem tk_24 : tk Tryz.prog 24 = some (2, true) := by kernel_rfl
@[go_sem] theorem tf_24_0 : tkField Tryz.prog 24 0 = some (0, 1, false) := by kernel_rfl
@[go_sem] theorem tf_24_1 : tkField Tryz.prog 24 1 = some (1, 1, false) := by kernel_rfl
@[go_sem] theorem tp_24 : tkPlaces Tryz.prog 24 = some [(0, 1), (1, 1)] := by kernel_rfl
@[go_sem] theorem ta_24 : tkArr Tryz.prog 24 = none := by kernel_rfl
@[go_sem] theorem tb_24 : tkBytes Tryz.prog 24 = some 32 := by kernel_rfl
@[go_sem] theorem tn_24 : notInt Tryz.prog 24 = true := by kernel_rfl
@[go_sem] theorem tz_24 : tkZero Tryz.prog 24 = some [.int .i64 0, .slice none 0 0] := by kernel_rfl
attribute [go_sem] Tryz.underlying26
@[go_sem] theorem tk_26 : tk Tryz.prog 26 = some (4, true) := by kernel_rfl
@[go_sem] theorem tf_26_0 : tkField Tryz.prog 26 0 = some (0, 1, false) := by kernel_rfl
@[go_sem] theorem tf_26_1 : tkField Tryz.prog 26 1 = some (1, 1, false) := by kernel_rfl
@[go_sem] theorem tf_26_2 : tkField Tryz.prog 26 2 = some (2, 2, true) := by kernel_rfl
@[go_sem] theorem tp_26 : tkPlaces Tryz.prog 26 = some [(0, 1), (1, 1), (2, 2)] := by kernel_rfl
@[go_sem] theorem ta_26 : tkArr Tryz.prog 26 = none := by kernel_rfl
@[go_sem] theorem tb_26 : tkBytes Tryz.prog 26 = some 48 := by kernel_rfl
@[go_sem] theorem tn_26 : notInt Tryz.prog 26 = true := by kernel_rfl
@[go_sem] theorem tz_26 : tkZero Tryz.prog 26 = some [.int .i64 0, .bool false, .int .i64 0, .slice none 0 0] := by kernel_rfl
attribute [go_sem] Tryz.underlying27
@[go_sem] theorem tk_27 : tk Tryz.prog 27 = some (1, false) := by kernel_rfl
@[go_sem] theorem tp_27 : tkPlaces Tryz.prog 27 = none := by kernel_rfl
@[go_sem] theorem ta_27 : tkArr Tryz.prog 27 = none := by kernel_rfl
@[go_sem] theorem te_27 : tkElem Tryz.prog 27 = some (1, false) := by kernel_rfl
@[go_sem] theorem tb_27 : tkBytes Tryz.prog 27 = some 24 := by kernel_rfl
@[go_sem] theorem tn_27 : notInt Tryz.prog 27 = true := by kernel_rfl
@[go_sem] theorem tz_27 : tkZero Tryz.prog 27 = some [.slice none 0 0] := by kernel_rfl
attribute [go_sem] Tryz.underlying30
@[go_sem] theorem tk_30 : tk Tryz.prog 30 = some (1, false) := by kernel_rfl
@[go_sem] theorem tp_30 : tkPlaces Tryz.prog 30 = none := by kernel_rfl
@[go_sem] theorem ta_30 : tkArr Tryz.prog 30 = none := by kernel_rfl
@[go_sem] theorem tb_30 : tkBytes Tryz.prog 30 = some 16 := by kernel_rfl
@[go_sem] theorem tn_30 : notInt Tryz.prog 30 = true := by kernel_rfl
@[go_sem] theorem tz_30 : tkZero Tryz.prog 30 = some [.nilIface] := by kernel_rfl
attribute [go_sem] Tryz.underlying33
@[go_sem] theorem tk_33 : tk Tryz.prog 33 = some (1, false) := by kernel_rfl
@[go_sem] theorem tp_33 : tkPlaces Tryz.prog 33 = none := by kernel_rfl
@[go_sem] theorem ta_33 : tkArr Tryz.prog 33 = none := by kernel_rfl
@[go_sem] theorem tb_33 : tkBytes Tryz.prog 33 = some 8 := by kernel_rfl
@[go_sem] theorem tn_33 : notInt Tryz.prog 33 = false := by kernel_rfl
@[go_sem] theorem tz_33 : tkZero Tryz.prog 33 = some [.int .i64 0] := by kernel_rfl
attribute [go_sem] Tryz.underlying45
@[go_sem] theorem tk_45 : tk Tryz.prog 45 = some (1, false) := by kernel_rfl
@[go_sem] theorem tp_45 : tkPlaces Tryz.prog 45 = none := by kernel_rfl
@[go_sem] theorem ta_45 : tkArr Tryz.prog 45 = none := by kernel_rfl
@[go_sem] theorem tb_45 : tkBytes Tryz.prog 45 = some 8 := by kernel_rfl
@[go_sem] theorem tn_45 : notInt Tryz.prog 45 = true := by kernel_rfl
@[go_sem] theorem tz_45 : tkZero Tryz.prog 45 = some [.pointer none] := by kernel_rfl
attribute [go_sem] Tryz.underlying46
@[go_sem] theorem tk_46 : tk Tryz.prog 46 = some (1, false) := by kernel_rfl
@[go_sem] theorem tp_46 : tkPlaces Tryz.prog 46 = none := by kernel_rfl
@[go_sem] theorem ta_46 : tkArr Tryz.prog 46 = none := by kernel_rfl
@[go_sem] theorem tb_46 : tkBytes Tryz.prog 46 = some 8 := by kernel_rfl
@[go_sem] theorem tn_46 : notInt Tryz.prog 46 = true := by kernel_rfl
@[go_sem] theorem tz_46 : tkZero Tryz.prog 46 = some [.pointer none] := by kernel_rfl
attribute [go_sem] Tryz.underlying47
@[go_sem] theorem tk_47 : tk Tryz.prog 47 = some (1, false) := by kernel_rfl
@[go_sem] theorem tp_47 : tkPlaces Tryz.prog 47 = none := by kernel_rfl
@[go_sem] theorem ta_47 : tkArr Tryz.prog 47 = none := by kernel_rfl
@[go_sem] theorem te_47 : tkElem Tryz.prog 47 = some (2, true) := by kernel_rfl
@[go_sem] theorem tb_47 : tkBytes Tryz.prog 47 = some 24 := by kernel_rfl
@[go_sem] theorem tn_47 : notInt Tryz.prog 47 = true := by kernel_rfl
@[go_sem] theorem tz_47 : tkZero Tryz.prog 47 = some [.slice none 0 0] := by kernel_rfl
attribute [go_sem] Tryz.underlying48
@[go_sem] theorem tk_48 : tk Tryz.prog 48 = some (1, false) := by kernel_rfl
@[go_sem] theorem tp_48 : tkPlaces Tryz.prog 48 = none := by kernel_rfl
@[go_sem] theorem ta_48 : tkArr Tryz.prog 48 = none := by kernel_rfl
@[go_sem] theorem te_48 : tkElem Tryz.prog 48 = some (3, true) := by kernel_rfl
@[go_sem] theorem tb_48 : tkBytes Tryz.prog 48 = some 24 := by kernel_rfl
@[go_sem] theorem tn_48 : notInt Tryz.prog 48 = true := by kernel_rfl
@[go_sem] theorem tz_48 : tkZero Tryz.prog 48 = some [.slice none 0 0] := by kernel_rfl
attribute [go_sem] Tryz.underlying50
@[go_sem] theorem tk_50 : tk Tryz.prog 50 = some (6, true) := by kernel_rfl
@[go_sem] theorem tf_50_0 : tkField Tryz.prog 50 0 = some (0, 1, false) := by kernel_rfl
@[go_sem] theorem tf_50_1 : tkField Tryz.prog 50 1 = some (1, 1, false) := by kernel_rfl
@[go_sem] theorem tf_50_2 : tkField Tryz.prog 50 2 = some (2, 1, false) := by kernel_rfl
@[go_sem] theorem tf_50_3 : tkField Tryz.prog 50 3 = some (3, 1, false) := by kernel_rfl
@[go_sem] theorem tf_50_4 : tkField Tryz.prog 50 4 = some (4, 1, false) := by kernel_rfl
@[go_sem] theorem tf_50_5 : tkField Tryz.prog 50 5 = some (5, 1, false) := by kernel_rfl
@[go_sem] theorem tp_50 : tkPlaces Tryz.prog 50 = some [(0, 1), (1, 1), (2, 1), (3, 1), (4, 1), (5, 1)] := by kernel_rfl
@[go_sem] theorem ta_50 : tkArr Tryz.prog 50 = none := by kernel_rfl
@[go_sem] theorem tb_50 : tkBytes Tryz.prog 50 = some 80 := by kernel_rfl
@[go_sem] theorem tn_50 : notInt Tryz.prog 50 = true := by kernel_rfl
@[go_sem] theorem tz_50 : tkZero Tryz.prog 50 = some [.int .i64 0, .slice none 0 0, .slice none 0 0, .int .i64 0, .bool false, .int .i64 0] := by kernel_rfl
attribute [go_sem] Tryz.underlying52
@[go_sem] theorem tk_52 : tk Tryz.prog 52 = some (7, true) := by kernel_rfl
@[go_sem] theorem tf_52_0 : tkField Tryz.prog 52 0 = some (0, 6, true) := by kernel_rfl
@[go_sem] theorem tf_52_1 : tkField Tryz.prog 52 1 = some (6, 1, false) := by kernel_rfl
@[go_sem] theorem tp_52 : tkPlaces Tryz.prog 52 = some [(0, 6), (6, 1)] := by kernel_rfl
@[go_sem] theorem ta_52 : tkArr Tryz.prog 52 = none := by kernel_rfl
@[go_sem] theorem tb_52 : tkBytes Tryz.prog 52 = some 88 := by kernel_rfl
@[go_sem] theorem tn_52 : notInt Tryz.prog 52 = true := by kernel_rfl
@[go_sem] theorem tz_52 : tkZero Tryz.prog 52 = some [.int .i64 0, .slice none 0 0, .slice none 0 0, .int .i64 0, .bool false, .int .i64 0, .int .i64 0] := by kernel_rfl
attribute [go_sem] Tryz.underlying54
@[go_sem] theorem tk_54 : tk Tryz.prog 54 = some (13, true) := by kernel_rfl
@[go_sem] theorem tf_54_0 : tkField Tryz.prog 54 0 = some (0, 7, true) := by kernel_rfl
@[go_sem] theorem tf_54_1 : tkField Tryz.prog 54 1 = some (7, 1, false) := by kernel_rfl
@[go_sem] theorem tf_54_2 : tkField Tryz.prog 54 2 = some (8, 1, false) := by kernel_rfl
@[go_sem] theorem tf_54_3 : tkField Tryz.prog 54 3 = some (9, 4, true) := by kernel_rfl
@[go_sem] theorem tp_54 : tkPlaces Tryz.prog 54 = some [(0, 7), (7, 1), (8, 1), (9, 4)] := by kernel_rfl
@[go_sem] theorem ta_54 : tkArr Tryz.prog 54 = none := by kernel_rfl
@[go_sem] theorem tb_54 : tkBytes Tryz.prog 54 = some 152 := by kernel_rfl
@[go_sem] theorem tn_54 : notInt Tryz.prog 54 = true := by kernel_rfl
@[go_sem] theorem tz_54 : tkZero Tryz.prog 54 = some [.int .i64 0, .slice none 0 0, .slice none 0 0, .int .i64 0, .bool false, .int .i64 0, .int .i64 0, .int .i64 0, .int .i64 0, .int .i64 0, .bool false, .int .i64 0, .slice none 0 0] := by kernel_rfl
attribute [go_sem] Tryz.underlying56
@[go_sem] theorem tk_56 : tk Tryz.prog 56 = some (15, true) := by kernel_rfl
@[go_sem] theorem tf_56_0 : tkField Tryz.prog 56 0 = some (0, 1, false) := by kernel_rfl
@[go_sem] theorem tf_56_1 : tkField Tryz.prog 56 1 = some (1, 1, false) := by kernel_rfl
@[go_sem] theorem tf_56_2 : tkField Tryz.prog 56 2 = some (2, 13, true) := by kernel_rfl
@[go_sem] theorem tp_56 : tkPlaces Tryz.prog 56 = some [(0, 1), (1, 1), (2, 13)] := by kernel_rfl
@[go_sem] theorem ta_56 : tkArr Tryz.prog 56 = none := by kernel_rfl
@[go_sem] theorem tb_56 : tkBytes Tryz.prog 56 = some 168 := by kernel_rfl
@[go_sem] theorem tn_56 : notInt Tryz.prog 56 = true := by kernel_rfl
@[go_sem] theorem tz_56 : tkZero Tryz.prog 56 = some [.pointer none, .pointer none, .int .i64 0, .slice none 0 0, .slice none 0 0, .int .i64 0, .bool false, .int .i64 0, .int .i64 0, .int .i64 0, .int .i64 0, .int .i64 0, .bool false, .int .i64 0, .slice none 0 0] := by kernel_rfl
attribute [go_sem] Tryz.underlying63
@[go_sem] theorem tk_63 : tk Tryz.prog 63 = some (1, false) := by kernel_rfl
@[go_sem] theorem tp_63 : tkPlaces Tryz.prog 63 = none := by kernel_rfl
@[go_sem] theorem ta_63 : tkArr Tryz.prog 63 = none := by kernel_rfl
@[go_sem] theorem te_63 : tkElem Tryz.prog 63 = some (7, true) := by kernel_rfl
@[go_sem] theorem tb_63 : tkBytes Tryz.prog 63 = some 24 := by kernel_rfl
@[go_sem] theorem tn_63 : notInt Tryz.prog 63 = true := by kernel_rfl
@[go_sem] theorem tz_63 : tkZero Tryz.prog 63 = some [.slice none 0 0] := by kernel_rfl
attribute [go_sem] Tryz.underlying66
@[go_sem] theorem tk_66 : tk Tryz.prog 66 = some (1, false) := by kernel_rfl
@[go_sem] theorem tp_66 : tkPlaces Tryz.prog 66 = none := by kernel_rfl
@[go_sem] theorem ta_66 : tkArr Tryz.prog 66 = none := by kernel_rfl
@[go_sem] theorem te_66 : tkElem Tryz.prog 66 = some (1, false) := by kernel_rfl
@[go_sem] theorem tb_66 : tkBytes Tryz.prog 66 = some 24 := by kernel_rfl
@[go_sem] theorem tn_66 : notInt Tryz.prog 66 = true := by kernel_rfl
@[go_sem] theorem tz_66 : tkZero Tryz.prog 66 = some [.slice none 0 0] := by kernel_rfl
attribute [go_sem] Tryz.underlying68
@[go_sem] theorem tk_68 : tk Tryz.prog 68 = some (7, true) := by kernel_rfl
@[go_sem] theorem tf_68_0 : tkField Tryz.prog 68 0 = some (0, 1, false) := by kernel_rfl
@[go_sem] theorem tf_68_1 : tkField Tryz.prog 68 1 = some (1, 4, true) := by kernel_rfl
@[go_sem] theorem tf_68_2 : tkField Tryz.prog 68 2 = some (5, 1, false) := by kernel_rfl
@[go_sem] theorem tf_68_3 : tkField Tryz.prog 68 3 = some (6, 1, false) := by kernel_rfl
@[go_sem] theorem tp_68 : tkPlaces Tryz.prog 68 = some [(0, 1), (1, 4), (5, 1), (6, 1)] := by kernel_rfl
@[go_sem] theorem ta_68 : tkArr Tryz.prog 68 = none := by kernel_rfl
@[go_sem] theorem tb_68 : tkBytes Tryz.prog 68 = some 88 := by kernel_rfl
@[go_sem] theorem tn_68 : notInt Tryz.prog 68 = true := by kernel_rfl
@[go_sem] theorem tz_68 : tkZero Tryz.prog 68 = some [.int .i64 0, .int .i64 0, .bool false, .int .i64 0, .slice none 0 0, .int .i64 0, .slice none 0 0] := by kernel_rfl
attribute [go_sem] Tryz.underlying75
@[go_sem] theorem tk_75 : tk Tryz.prog 75 = some (1, false) := by kernel_rfl
@[go_sem] theorem tp_75 : tkPlaces Tryz.prog 75 = none := by kernel_rfl
@[go_sem] theorem ta_75 : tkArr Tryz.prog 75 = none := by kernel_rfl
@[go_sem] theorem tb_75 : tkBytes Tryz.prog 75 = some 8 := by kernel_rfl
@[go_sem] theorem tn_75 : notInt Tryz.prog 75 = true := by kernel_rfl
@[go_sem] theorem tz_75 : tkZero Tryz.prog 75 = some [.pointer none] := by kernel_rfl
attribute [go_sem] Tryz.underlying77
@[go_sem] theorem tk_77 : tk Tryz.prog 77 = some (2, true) := by kernel_rfl
@[go_sem] theorem tf_77_0 : tkField Tryz.prog 77 0 = some (0, 1, false) := by kernel_rfl
@[go_sem] theorem tf_77_1 : tkField Tryz.prog 77 1 = some (1, 1, false) := by kernel_rfl
@[go_sem] theorem tp_77 : tkPlaces Tryz.prog 77 = some [(0, 1), (1, 1)] := by kernel_rfl
@[go_sem] theorem ta_77 : tkArr Tryz.prog 77 = none := by kernel_rfl
@[go_sem] theorem tb_77 : tkBytes Tryz.prog 77 = some 16 := by kernel_rfl
@[go_sem] theorem tn_77 : notInt Tryz.prog 77 = true := by kernel_rfl
@[go_sem] theorem tz_77 : tkZero Tryz.prog 77 = some [.pointer none, .int .i64 0] := by kernel_rfl
attribute [go_sem] Tryz.underlying82
@[go_sem] theorem tk_82 : tk Tryz.prog 82 = some (1, false) := by kernel_rfl
@[go_sem] theorem tp_82 : tkPlaces Tryz.prog 82 = none := by kernel_rfl
@[go_sem] theorem ta_82 : tkArr Tryz.prog 82 = none := by kernel_rfl
@[go_sem] theorem te_82 : tkElem Tryz.prog 82 = some (8, true) := by kernel_rfl
@[go_sem] theorem tb_82 : tkBytes Tryz.prog 82 = some 24 := by kernel_rfl
@[go_sem] theorem tn_82 : notInt Tryz.prog 82 = true := by kernel_rfl
@[go_sem] theorem tz_82 : tkZero Tryz.prog 82 = some [.slice none 0 0] := by kernel_rfl
attribute [go_sem] Tryz.underlying84
@[go_sem] theorem tk_84 : tk Tryz.prog 84 = some (1, false) := by kernel_rfl
@[go_sem] theorem tp_84 : tkPlaces Tryz.prog 84 = none := by kernel_rfl
@[go_sem] theorem ta_84 : tkArr Tryz.prog 84 = none := by kernel_rfl
@[go_sem] theorem tb_84 : tkBytes Tryz.prog 84 = some 8 := by kernel_rfl
@[go_sem] theorem tn_84 : notInt Tryz.prog 84 = true := by kernel_rfl
@[go_sem] theorem tz_84 : tkZero Tryz.prog 84 = some [.pointer none] := by kernel_rfl
attribute [go_sem] Tryz.underlying90
@[go_sem] theorem tk_90 : tk Tryz.prog 90 = some (9, true) := by kernel_rfl
@[go_sem] theorem tf_90_0 : tkField Tryz.prog 90 0 = some (0, 7, true) := by kernel_rfl
@[go_sem] theorem tf_90_1 : tkField Tryz.prog 90 1 = some (7, 1, false) := by kernel_rfl
@[go_sem] theorem tf_90_2 : tkField Tryz.prog 90 2 = some (8, 1, false) := by kernel_rfl
@[go_sem] theorem tp_90 : tkPlaces Tryz.prog 90 = some [(0, 7), (7, 1), (8, 1)] := by kernel_rfl
@[go_sem] theorem ta_90 : tkArr Tryz.prog 90 = none := by kernel_rfl
@[go_sem] theorem tb_90 : tkBytes Tryz.prog 90 = some 104 := by kernel_rfl
@[go_sem] theorem tn_90 : notInt Tryz.prog 90 = true := by kernel_rfl
@[go_sem] theorem tz_90 : tkZero Tryz.prog 90 = some [.int .i64 0, .slice none 0 0, .slice none 0 0, .int .i64 0, .bool false, .int .i64 0, .int .i64 0, .int .i64 0, .int .i64 0] := by kernel_rfl
attribute [go_sem] Tryz.underlying94
@[go_sem] theorem tk_94 : tk Tryz.prog 94 = some (5, true) := by kernel_rfl
@[go_sem] theorem tf_94_0 : tkField Tryz.prog 94 0 = some (0, 1, false) := by kernel_rfl
@[go_sem] theorem tf_94_1 : tkField Tryz.prog 94 1 = some (1, 1, false) := by kernel_rfl
@[go_sem] theorem tf_94_2 : tkField Tryz.prog 94 2 = some (2, 1, false) := by kernel_rfl
@[go_sem] theorem tf_94_3 : tkField Tryz.prog 94 3 = some (3, 1, false) := by kernel_rfl
@[go_sem] theorem tf_94_4 : tkField Tryz.prog 94 4 = some (4, 1, false) := by kernel_rfl
@[go_sem] theorem tp_94 : tkPlaces Tryz.prog 94 = some [(0, 1), (1, 1), (2, 1), (3, 1), (4, 1)] := by kernel_rfl
@[go_sem] theorem ta_94 : tkArr Tryz.prog 94 = none := by kernel_rfl
@[go_sem] theorem tb_94 : tkBytes Tryz.prog 94 = some 64 := by kernel_rfl
@[go_sem] theorem tn_94 : notInt Tryz.prog 94 = true := by kernel_rfl
@[go_sem] theorem tz_94 : tkZero Tryz.prog 94 = some [.string ⟨#[]⟩, .int .i64 0, .int .i64 0, .int .i64 0, .slice none 0 0] := by kernel_rfl
attribute [go_sem] Tryz.underlying96
@[go_sem] theorem tk_96 : tk Tryz.prog 96 = some (8, true) := by kernel_rfl
@[go_sem] theorem tf_96_0 : tkField Tryz.prog 96 0 = some (0, 1, false) := by kernel_rfl
@[go_sem] theorem tf_96_1 : tkField Tryz.prog 96 1 = some (1, 5, true) := by kernel_rfl
@[go_sem] theorem tf_96_2 : tkField Tryz.prog 96 2 = some (6, 1, false) := by kernel_rfl
@[go_sem] theorem tf_96_3 : tkField Tryz.prog 96 3 = some (7, 1, false) := by kernel_rfl
@[go_sem] theorem tp_96 : tkPlaces Tryz.prog 96 = some [(0, 1), (1, 5), (6, 1), (7, 1)] := by kernel_rfl
@[go_sem] theorem ta_96 : tkArr Tryz.prog 96 = none := by kernel_rfl
@[go_sem] theorem tb_96 : tkBytes Tryz.prog 96 = some 104 := by kernel_rfl
@[go_sem] theorem tn_96 : notInt Tryz.prog 96 = true := by kernel_rfl
@[go_sem] theorem tz_96 : tkZero Tryz.prog 96 = some [.int .i64 0, .string ⟨#[]⟩, .int .i64 0, .int .i64 0, .int .i64 0, .slice none 0 0, .int .i64 0, .slice none 0 0] := by kernel_rfl
attribute [go_sem] Tryz.underlying101
@[go_sem] theorem tk_101 : tk Tryz.prog 101 = some (1, false) := by kernel_rfl
@[go_sem] theorem tp_101 : tkPlaces Tryz.prog 101 = none := by kernel_rfl
@[go_sem] theorem ta_101 : tkArr Tryz.prog 101 = none := by kernel_rfl
@[go_sem] theorem te_101 : tkElem Tryz.prog 101 = some (5, true) := by kernel_rfl
@[go_sem] theorem tb_101 : tkBytes Tryz.prog 101 = some 24 := by kernel_rfl
@[go_sem] theorem tn_101 : notInt Tryz.prog 101 = true := by kernel_rfl
@[go_sem] theorem tz_101 : tkZero Tryz.prog 101 = some [.slice none 0 0] := by kernel_rfl
attribute [go_sem] Tryz.underlying122
@[go_sem] theorem tk_122 : tk Tryz.prog 122 = some (1, false) := by kernel_rfl
@[go_sem] theorem tp_122 : tkPlaces Tryz.prog 122 = none := by kernel_rfl
@[go_sem] theorem ta_122 : tkArr Tryz.prog 122 = none := by kernel_rfl
@[go_sem] theorem tb_122 : tkBytes Tryz.prog 122 = some 8 := by kernel_rfl
@[go_sem] theorem tn_122 : notInt Tryz.prog 122 = false := by kernel_rfl
@[go_sem] theorem tz_122 : tkZero Tryz.prog 122 = some [.int .u64 0] := by kernel_rfl
attribute [go_sem] Tryz.underlying124
@[go_sem] theorem tk_124 : tk Tryz.prog 124 = some (2, true) := by kernel_rfl
@[go_sem] theorem tf_124_0 : tkField Tryz.prog 124 0 = some (0, 1, false) := by kernel_rfl
@[go_sem] theorem tf_124_1 : tkField Tryz.prog 124 1 = some (1, 1, false) := by kernel_rfl
@[go_sem] theorem tp_124 : tkPlaces Tryz.prog 124 = some [(0, 1), (1, 1)] := by kernel_rfl
@[go_sem] theorem ta_124 : tkArr Tryz.prog 124 = none := by kernel_rfl
@[go_sem] theorem tb_124 : tkBytes Tryz.prog 124 = some 16 := by kernel_rfl
@[go_sem] theorem tn_124 : notInt Tryz.prog 124 = true := by kernel_rfl
@[go_sem] theorem tz_124 : tkZero Tryz.prog 124 = some [.int .u64 0, .int .i64 0] := by kernel_rfl
attribute [go_sem] Tryz.underlying132
@[go_sem] theorem tk_132 : tk Tryz.prog 132 = some (1, false) := by kernel_rfl
@[go_sem] theorem tp_132 : tkPlaces Tryz.prog 132 = none := by kernel_rfl
@[go_sem] theorem ta_132 : tkArr Tryz.prog 132 = none := by kernel_rfl
@[go_sem] theorem tb_132 : tkBytes Tryz.prog 132 = some 8 := by kernel_rfl
@[go_sem] theorem tn_132 : notInt Tryz.prog 132 = true := by kernel_rfl
@[go_sem] theorem tz_132 : tkZero Tryz.prog 132 = some [.pointer none] := by kernel_rfl
attribute [go_sem] Tryz.underlying139
@[go_sem] theorem tk_139 : tk Tryz.prog 139 = some (3, true) := by kernel_rfl
@[go_sem] theorem tf_139_0 : tkField Tryz.prog 139 0 = some (0, 1, false) := by kernel_rfl
@[go_sem] theorem tf_139_1 : tkField Tryz.prog 139 1 = some (1, 1, false) := by kernel_rfl
@[go_sem] theorem tf_139_2 : tkField Tryz.prog 139 2 = some (2, 1, false) := by kernel_rfl
@[go_sem] theorem tp_139 : tkPlaces Tryz.prog 139 = some [(0, 1), (1, 1), (2, 1)] := by kernel_rfl
@[go_sem] theorem ta_139 : tkArr Tryz.prog 139 = none := by kernel_rfl
@[go_sem] theorem tb_139 : tkBytes Tryz.prog 139 = some 40 := by kernel_rfl
@[go_sem] theorem tn_139 : notInt Tryz.prog 139 = true := by kernel_rfl
@[go_sem] theorem tz_139 : tkZero Tryz.prog 139 = some [.slice none 0 0, .int .i64 0, .int .i64 0] := by kernel_rfl
attribute [go_sem] Tryz.underlying145
@[go_sem] theorem tk_145 : tk Tryz.prog 145 = some (1, false) := by kernel_rfl
@[go_sem] theorem tp_145 : tkPlaces Tryz.prog 145 = none := by kernel_rfl
@[go_sem] theorem ta_145 : tkArr Tryz.prog 145 = none := by kernel_rfl
@[go_sem] theorem tb_145 : tkBytes Tryz.prog 145 = some 8 := by kernel_rfl
@[go_sem] theorem tn_145 : notInt Tryz.prog 145 = true := by kernel_rfl
@[go_sem] theorem tz_145 : tkZero Tryz.prog 145 = some [.pointer none] := by kernel_rfl
attribute [go_sem] Tryz.underlying147
@[go_sem] theorem tk_147 : tk Tryz.prog 147 = some (1, false) := by kernel_rfl
@[go_sem] theorem tp_147 : tkPlaces Tryz.prog 147 = none := by kernel_rfl
@[go_sem] theorem ta_147 : tkArr Tryz.prog 147 = none := by kernel_rfl
@[go_sem] theorem tb_147 : tkBytes Tryz.prog 147 = some 8 := by kernel_rfl
@[go_sem] theorem tn_147 : notInt Tryz.prog 147 = true := by kernel_rfl
@[go_sem] theorem tz_147 : tkZero Tryz.prog 147 = some [.pointer none] := by kernel_rfl
attribute [go_sem] Tryz.underlying149
@[go_sem] theorem tk_149 : tk Tryz.prog 149 = some (4, true) := by kernel_rfl
@[go_sem] theorem tf_149_0 : tkField Tryz.prog 149 0 = some (0, 1, false) := by kernel_rfl
@[go_sem] theorem tf_149_1 : tkField Tryz.prog 149 1 = some (1, 1, false) := by kernel_rfl
@[go_sem] theorem tf_149_2 : tkField Tryz.prog 149 2 = some (2, 1, false) := by kernel_rfl
@[go_sem] theorem tf_149_3 : tkField Tryz.prog 149 3 = some (3, 1, false) := by kernel_rfl
@[go_sem] theorem tp_149 : tkPlaces Tryz.prog 149 = some [(0, 1), (1, 1), (2, 1), (3, 1)] := by kernel_rfl
@[go_sem] theorem ta_149 : tkArr Tryz.prog 149 = none := by kernel_rfl
@[go_sem] theorem tb_149 : tkBytes Tryz.prog 149 = some 48 := by kernel_rfl
@[go_sem] theorem tn_149 : notInt Tryz.prog 149 = true := by kernel_rfl
@[go_sem] theorem tz_149 : tkZero Tryz.prog 149 = some [.string ⟨#[]⟩, .int .i64 0, .int .i64 0, .nilIface] := by kernel_rfl
attribute [go_sem] Tryz.underlying155
@[go_sem] theorem tk_155 : tk Tryz.prog 155 = some (7, true) := by kernel_rfl
@[go_sem] theorem tf_155_0 : tkField Tryz.prog 155 0 = some (0, 1, false) := by kernel_rfl
@[go_sem] theorem tf_155_1 : tkField Tryz.prog 155 1 = some (1, 1, false) := by kernel_rfl
@[go_sem] theorem tf_155_2 : tkField Tryz.prog 155 2 = some (2, 1, false) := by kernel_rfl
@[go_sem] theorem tf_155_3 : tkField Tryz.prog 155 3 = some (3, 4, true) := by kernel_rfl
@[go_sem] theorem tp_155 : tkPlaces Tryz.prog 155 = some [(0, 1), (1, 1), (2, 1), (3, 4)] := by kernel_rfl
@[go_sem] theorem ta_155 : tkArr Tryz.prog 155 = none := by kernel_rfl
@[go_sem] theorem tb_155 : tkBytes Tryz.prog 155 = some 72 := by kernel_rfl
@[go_sem] theorem tn_155 : notInt Tryz.prog 155 = true := by kernel_rfl
@[go_sem] theorem tz_155 : tkZero Tryz.prog 155 = some [.pointer none, .int .i64 0, .int .i64 0, .int .i64 0, .bool false, .int .i64 0, .slice none 0 0] := by kernel_rfl
attribute [go_sem] Tryz.underlying162
@[go_sem] theorem tk_162 : tk Tryz.prog 162 = some (3, true) := by kernel_rfl
@[go_sem] theorem tf_162_0 : tkField Tryz.prog 162 0 = some (0, 1, false) := by kernel_rfl
@[go_sem] theorem tf_162_1 : tkField Tryz.prog 162 1 = some (1, 1, false) := by kernel_rfl
@[go_sem] theorem tf_162_2 : tkField Tryz.prog 162 2 = some (2, 1, false) := by kernel_rfl
@[go_sem] theorem tp_162 : tkPlaces Tryz.prog 162 = some [(0, 1), (1, 1), (2, 1)] := by kernel_rfl
@[go_sem] theorem ta_162 : tkArr Tryz.prog 162 = none := by kernel_rfl
@[go_sem] theorem tb_162 : tkBytes Tryz.prog 162 = some 40 := by kernel_rfl
@[go_sem] theorem tn_162 : notInt Tryz.prog 162 = true := by kernel_rfl
@[go_sem] theorem tz_162 : tkZero Tryz.prog 162 = some [.int .i64 0, .int .i64 0, .slice none 0 0] := by kernel_rfl
attribute [go_sem] Tryz.underlying168
@[go_sem] theorem tk_168 : tk Tryz.prog 168 = some (1, false) := by kernel_rfl
@[go_sem] theorem tp_168 : tkPlaces Tryz.prog 168 = none := by kernel_rfl
@[go_sem] theorem ta_168 : tkArr Tryz.prog 168 = none := by kernel_rfl
@[go_sem] theorem tb_168 : tkBytes Tryz.prog 168 = some 8 := by kernel_rfl
@[go_sem] theorem tn_168 : notInt Tryz.prog 168 = true := by kernel_rfl
@[go_sem] theorem tz_168 : tkZero Tryz.prog 168 = some [.map none] := by kernel_rfl
attribute [go_sem] Tryz.underlying169
@[go_sem] theorem tk_169 : tk Tryz.prog 169 = some (1, false) := by kernel_rfl
@[go_sem] theorem tp_169 : tkPlaces Tryz.prog 169 = none := by kernel_rfl
@[go_sem] theorem ta_169 : tkArr Tryz.prog 169 = none := by kernel_rfl
@[go_sem] theorem te_169 : tkElem Tryz.prog 169 = some (2, true) := by kernel_rfl
@[go_sem] theorem tb_169 : tkBytes Tryz.prog 169 = some 24 := by kernel_rfl
@[go_sem] theorem tn_169 : notInt Tryz.prog 169 = true := by kernel_rfl
@[go_sem] theorem tz_169 : tkZero Tryz.prog 169 = some [.slice none 0 0] := by kernel_rfl
attribute [go_sem] Tryz.underlying171
@[go_sem] theorem tk_171 : tk Tryz.prog 171 = some (6, true) := by kernel_rfl
@[go_sem] theorem tf_171_0 : tkField Tryz.prog 171 0 = some (0, 1, false) := by kernel_rfl
@[go_sem] theorem tf_171_1 : tkField Tryz.prog 171 1 = some (1, 1, false) := by kernel_rfl
@[go_sem] theorem tf_171_2 : tkField Tryz.prog 171 2 = some (2, 1, false) := by kernel_rfl
@[go_sem] theorem tf_171_3 : tkField Tryz.prog 171 3 = some (3, 1, false) := by kernel_rfl
@[go_sem] theorem tf_171_4 : tkField Tryz.prog 171 4 = some (4, 1, false) := by kernel_rfl
@[go_sem] theorem tf_171_5 : tkField Tryz.prog 171 5 = some (5, 1, false) := by kernel_rfl
@[go_sem] theorem tp_171 : tkPlaces Tryz.prog 171 = some [(0, 1), (1, 1), (2, 1), (3, 1), (4, 1), (5, 1)] := by kernel_rfl
@[go_sem] theorem ta_171 : tkArr Tryz.prog 171 = none := by kernel_rfl
@[go_sem] theorem tb_171 : tkBytes Tryz.prog 171 = some 64 := by kernel_rfl
@[go_sem] theorem tn_171 : notInt Tryz.prog 171 = true := by kernel_rfl
@[go_sem] theorem tz_171 : tkZero Tryz.prog 171 = some [.int .i64 0, .map none, .slice none 0 0, .int .i64 0, .bool false, .int .i64 0] := by kernel_rfl
attribute [go_sem] Tryz.underlying173
@[go_sem] theorem tk_173 : tk Tryz.prog 173 = some (2, true) := by kernel_rfl
@[go_sem] theorem tf_173_0 : tkField Tryz.prog 173 0 = some (0, 1, false) := by kernel_rfl
@[go_sem] theorem tf_173_1 : tkField Tryz.prog 173 1 = some (1, 1, false) := by kernel_rfl
@[go_sem] theorem tp_173 : tkPlaces Tryz.prog 173 = some [(0, 1), (1, 1)] := by kernel_rfl
@[go_sem] theorem ta_173 : tkArr Tryz.prog 173 = none := by kernel_rfl
@[go_sem] theorem tb_173 : tkBytes Tryz.prog 173 = some 32 := by kernel_rfl
@[go_sem] theorem tn_173 : notInt Tryz.prog 173 = true := by kernel_rfl
@[go_sem] theorem tz_173 : tkZero Tryz.prog 173 = some [.int .i64 0, .slice none 0 0] := by kernel_rfl
attribute [go_sem] Tryz.underlying177
@[go_sem] theorem tk_177 : tk Tryz.prog 177 = some (2, true) := by kernel_rfl
@[go_sem] theorem tf_177_0 : tkField Tryz.prog 177 0 = some (0, 1, false) := by kernel_rfl
@[go_sem] theorem tf_177_1 : tkField Tryz.prog 177 1 = some (1, 1, false) := by kernel_rfl
@[go_sem] theorem tp_177 : tkPlaces Tryz.prog 177 = some [(0, 1), (1, 1)] := by kernel_rfl
@[go_sem] theorem ta_177 : tkArr Tryz.prog 177 = none := by kernel_rfl
@[go_sem] theorem tb_177 : tkBytes Tryz.prog 177 = some 32 := by kernel_rfl
@[go_sem] theorem tn_177 : notInt Tryz.prog 177 = true := by kernel_rfl
@[go_sem] theorem tz_177 : tkZero Tryz.prog 177 = some [.int .i64 0, .slice none 0 0] := by kernel_rfl
attribute [go_sem] Tryz.underlying198
@[go_sem] theorem tk_198 : tk Tryz.prog 198 = some (1, false) := by kernel_rfl
@[go_sem] theorem tp_198 : tkPlaces Tryz.prog 198 = none := by kernel_rfl
@[go_sem] theorem ta_198 : tkArr Tryz.prog 198 = none := by kernel_rfl
@[go_sem] theorem te_198 : tkElem Tryz.prog 198 = some (2, true) := by kernel_rfl
@[go_sem] theorem tb_198 : tkBytes Tryz.prog 198 = some 24 := by kernel_rfl
@[go_sem] theorem tn_198 : notInt Tryz.prog 198 = true := by kernel_rfl
@[go_sem] theorem tz_198 : tkZero Tryz.prog 198 = some [.slice none 0 0] := by kernel_rfl
attribute [go_sem] Tryz.underlying200
@[go_sem] theorem tk_200 : tk Tryz.prog 200 = some (3, true) := by kernel_rfl
@[go_sem] theorem tf_200_0 : tkField Tryz.prog 200 0 = some (0, 1, false) := by kernel_rfl
@[go_sem] theorem tf_200_1 : tkField Tryz.prog 200 1 = some (1, 1, false) := by kernel_rfl
@[go_sem] theorem tf_200_2 : tkField Tryz.prog 200 2 = some (2, 1, false) := by kernel_rfl
@[go_sem] theorem tp_200 : tkPlaces Tryz.prog 200 = some [(0, 1), (1, 1), (2, 1)] := by kernel_rfl
@[go_sem] theorem ta_200 : tkArr Tryz.prog 200 = none := by kernel_rfl
@[go_sem] theorem tb_200 : tkBytes Tryz.prog 200 = some 40 := by kernel_rfl
@[go_sem] theorem tn_200 : notInt Tryz.prog 200 = true := by kernel_rfl
@[go_sem] theorem tz_200 : tkZero Tryz.prog 200 = some [.pointer none, .int .i64 0, .slice none 0 0] := by kernel_rfl
attribute [go_sem] Tryz.underlying203
@[go_sem] theorem tk_203 : tk Tryz.prog 203 = some (2, true) := by kernel_rfl
@[go_sem] theorem tp_203 : tkPlaces Tryz.prog 203 = none := by kernel_rfl
@[go_sem] theorem ta_203 : tkArr Tryz.prog 203 = some 2 := by kernel_rfl
@[go_sem] theorem te_203 : tkElem Tryz.prog 203 = some (1, false) := by kernel_rfl
@[go_sem] theorem tb_203 : tkBytes Tryz.prog 203 = some 16 := by kernel_rfl
@[go_sem] theorem tn_203 : notInt Tryz.prog 203 = true := by kernel_rfl
@[go_sem] theorem tz_203 : tkZero Tryz.prog 203 = some [.int .u64 0, .int .u64 0] := by kernel_rfl
attribute [go_sem] Tryz.underlying215
@[go_sem] theorem tk_215 : tk Tryz.prog 215 = some (3, true) := by kernel_rfl
@[go_sem] theorem tf_215_0 : tkField Tryz.prog 215 0 = some (0, 1, false) := by kernel_rfl
@[go_sem] theorem tf_215_1 : tkField Tryz.prog 215 1 = some (1, 1, false) := by kernel_rfl
@[go_sem] theorem tf_215_2 : tkField Tryz.prog 215 2 = some (2, 1, false) := by kernel_rfl
@[go_sem] theorem tp_215 : tkPlaces Tryz.prog 215 = some [(0, 1), (1, 1), (2, 1)] := by kernel_rfl
@[go_sem] theorem ta_215 : tkArr Tryz.prog 215 = none := by kernel_rfl
@[go_sem] theorem tb_215 : tkBytes Tryz.prog 215 = some 40 := by kernel_rfl
@[go_sem] theorem tn_215 : notInt Tryz.prog 215 = true := by kernel_rfl
@[go_sem] theorem tz_215 : tkZero Tryz.prog 215 = some [.slice none 0 0, .int .i64 0, .int .i64 0] := by kernel_rfl
attribute [go_sem] Tryz.underlying216
@[go_sem] theorem tk_216 : tk Tryz.prog 216 = some (1, false) := by kernel_rfl
@[go_sem] theorem tp_216 : tkPlaces Tryz.prog 216 = none := by kernel_rfl
@[go_sem] theorem ta_216 : tkArr Tryz.prog 216 = none := by kernel_rfl
@[go_sem] theorem tb_216 : tkBytes Tryz.prog 216 = some 8 := by kernel_rfl
@[go_sem] theorem tn_216 : notInt Tryz.prog 216 = false := by kernel_rfl
@[go_sem] theorem tz_216 : tkZero Tryz.prog 216 = some [.int .u64 0] := by kernel_rfl
attribute [go_sem] Tryz.underlying221
@[go_sem] theorem tk_221 : tk Tryz.prog 221 = some (1, false) := by kernel_rfl
@[go_sem] theorem tp_221 : tkPlaces Tryz.prog 221 = none := by kernel_rfl
@[go_sem] theorem ta_221 : tkArr Tryz.prog 221 = none := by kernel_rfl
@[go_sem] theorem tb_221 : tkBytes Tryz.prog 221 = some 8 := by kernel_rfl
@[go_sem] theorem tn_221 : notInt Tryz.prog 221 = true := by kernel_rfl
@[go_sem] theorem tz_221 : tkZero Tryz.prog 221 = some [.pointer none] := by kernel_rfl
attribute [go_sem] Tryz.underlying222
@[go_sem] theorem tk_222 : tk Tryz.prog 222 = some (1, false) := by kernel_rfl
@[go_sem] theorem tp_222 : tkPlaces Tryz.prog 222 = none := by kernel_rfl
@[go_sem] theorem ta_222 : tkArr Tryz.prog 222 = none := by kernel_rfl
@[go_sem] theorem tb_222 : tkBytes Tryz.prog 222 = some 8 := by kernel_rfl
@[go_sem] theorem tn_222 : notInt Tryz.prog 222 = false := by kernel_rfl
@[go_sem] theorem tz_222 : tkZero Tryz.prog 222 = some [.int .u64 0] := by kernel_rfl
attribute [go_sem] Tryz.underlying224
@[go_sem] theorem tk_224 : tk Tryz.prog 224 = some (3, true) := by kernel_rfl
@[go_sem] theorem tf_224_0 : tkField Tryz.prog 224 0 = some (0, 1, false) := by kernel_rfl
@[go_sem] theorem tf_224_1 : tkField Tryz.prog 224 1 = some (1, 1, false) := by kernel_rfl
@[go_sem] theorem tf_224_2 : tkField Tryz.prog 224 2 = some (2, 1, false) := by kernel_rfl
@[go_sem] theorem tp_224 : tkPlaces Tryz.prog 224 = some [(0, 1), (1, 1), (2, 1)] := by kernel_rfl
@[go_sem] theorem ta_224 : tkArr Tryz.prog 224 = none := by kernel_rfl
@[go_sem] theorem tb_224 : tkBytes Tryz.prog 224 = some 24 := by kernel_rfl
@[go_sem] theorem tn_224 : notInt Tryz.prog 224 = true := by kernel_rfl
@[go_sem] theorem tz_224 : tkZero Tryz.prog 224 = some [.pointer none, .pointer none, .int .u64 0] := by kernel_rfl
attribute [go_sem] Tryz.underlying227
@[go_sem] theorem tk_227 : tk Tryz.prog 227 = some (1, false) := by kernel_rfl
@[go_sem] theorem tp_227 : tkPlaces Tryz.prog 227 = none := by kernel_rfl
@[go_sem] theorem ta_227 : tkArr Tryz.prog 227 = none := by kernel_rfl
@[go_sem] theorem tb_227 : tkBytes Tryz.prog 227 = some 16 := by kernel_rfl
@[go_sem] theorem tn_227 : notInt Tryz.prog 227 = true := by kernel_rfl
@[go_sem] theorem tz_227 : tkZero Tryz.prog 227 = some [.nilIface] := by kernel_rfl
attribute [go_sem] Tryz.underlying229
@[go_sem] theorem tk_229 : tk Tryz.prog 229 = some (1, false) := by kernel_rfl
@[go_sem] theorem tp_229 : tkPlaces Tryz.prog 229 = none := by kernel_rfl
@[go_sem] theorem ta_229 : tkArr Tryz.prog 229 = none := by kernel_rfl
@[go_sem] theorem tb_229 : tkBytes Tryz.prog 229 = some 1 := by kernel_rfl
@[go_sem] theorem tn_229 : notInt Tryz.prog 229 = false := by kernel_rfl
@[go_sem] theorem tz_229 : tkZero Tryz.prog 229 = some [.int .u8 0] := by kernel_rfl
attribute [go_sem] Tryz.underlying238
@[go_sem] theorem tk_238 : tk Tryz.prog 238 = some (3, true) := by kernel_rfl
@[go_sem] theorem tf_238_0 : tkField Tryz.prog 238 0 = some (0, 1, false) := by kernel_rfl
@[go_sem] theorem tf_238_1 : tkField Tryz.prog 238 1 = some (1, 1, false) := by kernel_rfl
@[go_sem] theorem tf_238_2 : tkField Tryz.prog 238 2 = some (2, 1, false) := by kernel_rfl
@[go_sem] theorem tp_238 : tkPlaces Tryz.prog 238 = some [(0, 1), (1, 1), (2, 1)] := by kernel_rfl
@[go_sem] theorem ta_238 : tkArr Tryz.prog 238 = none := by kernel_rfl
@[go_sem] theorem tb_238 : tkBytes Tryz.prog 238 = some 40 := by kernel_rfl
@[go_sem] theorem tn_238 : notInt Tryz.prog 238 = true := by kernel_rfl
@[go_sem] theorem tz_238 : tkZero Tryz.prog 238 = some [.int .i64 0, .slice none 0 0, .bool false] := by kernel_rfl
attribute [go_sem] Tryz.underlying243
@[go_sem] theorem tk_243 : tk Tryz.prog 243 = some (1, true) := by kernel_rfl
@[go_sem] theorem tf_243_0 : tkField Tryz.prog 243 0 = some (0, 1, false) := by kernel_rfl
@[go_sem] theorem tp_243 : tkPlaces Tryz.prog 243 = some [(0, 1)] := by kernel_rfl
@[go_sem] theorem ta_243 : tkArr Tryz.prog 243 = none := by kernel_rfl
@[go_sem] theorem tb_243 : tkBytes Tryz.prog 243 = some 8 := by kernel_rfl
@[go_sem] theorem tn_243 : notInt Tryz.prog 243 = true := by kernel_rfl
@[go_sem] theorem tz_243 : tkZero Tryz.prog 243 = some [.int .i64 0] := by kernel_rfl
attribute [go_sem] Tryz.underlying251
@[go_sem] theorem tk_251 : tk Tryz.prog 251 = some (1, false) := by kernel_rfl
@[go_sem] theorem tp_251 : tkPlaces Tryz.prog 251 = none := by kernel_rfl
@[go_sem] theorem ta_251 : tkArr Tryz.prog 251 = none := by kernel_rfl
@[go_sem] theorem tb_251 : tkBytes Tryz.prog 251 = some 8 := by kernel_rfl
@[go_sem] theorem tn_251 : notInt Tryz.prog 251 = true := by kernel_rfl
@[go_sem] theorem tz_251 : tkZero Tryz.prog 251 = some [.nilFunc] := by kernel_rfl
attribute [go_sem] Tryz.underlying266
@[go_sem] theorem tk_266 : tk Tryz.prog 266 = some (1, false) := by kernel_rfl
@[go_sem] theorem tp_266 : tkPlaces Tryz.prog 266 = none := by kernel_rfl
@[go_sem] theorem ta_266 : tkArr Tryz.prog 266 = none := by kernel_rfl
@[go_sem] theorem te_266 : tkElem Tryz.prog 266 = some (1, false) := by kernel_rfl
@[go_sem] theorem tb_266 : tkBytes Tryz.prog 266 = some 24 := by kernel_rfl
@[go_sem] theorem tn_266 : notInt Tryz.prog 266 = true := by kernel_rfl
@[go_sem] theorem tz_266 : tkZero Tryz.prog 266 = some [.slice none 0 0] := by kernel_rfl
attribute [go_sem] Tryz.underlying268
@[go_sem] theorem tk_268 : tk Tryz.prog 268 = some (1, false) := by kernel_rfl
@[go_sem] theorem tp_268 : tkPlaces Tryz.prog 268 = none := by kernel_rfl
@[go_sem] theorem ta_268 : tkArr Tryz.prog 268 = none := by kernel_rfl
@[go_sem] theorem te_268 : tkElem Tryz.prog 268 = some (1, false) := by kernel_rfl
@[go_sem] theorem tb_268 : tkBytes Tryz.prog 268 = some 24 := by kernel_rfl
@[go_sem] theorem tn_268 : notInt Tryz.prog 268 = true := by kernel_rfl
@[go_sem] theorem tz_268 : tkZero Tryz.prog 268 = some [.slice none 0 0] := by kernel_rfl
attribute [go_sem] Tryz.underlying274
@[go_sem] theorem tk_274 : tk Tryz.prog 274 = some (1, false) := by kernel_rfl
@[go_sem] theorem tp_274 : tkPlaces Tryz.prog 274 = none := by kernel_rfl
@[go_sem] theorem ta_274 : tkArr Tryz.prog 274 = none := by kernel_rfl
@[go_sem] theorem tb_274 : tkBytes Tryz.prog 274 = some 8 := by kernel_rfl
@[go_sem] theorem tn_274 : notInt Tryz.prog 274 = true := by kernel_rfl
@[go_sem] theorem tz_274 : tkZero Tryz.prog 274 = some [.nilFunc] := by kernel_rfl
attribute [go_sem] Tryz.underlying289
@[go_sem] theorem tk_289 : tk Tryz.prog 289 = some (1, false) := by kernel_rfl
@[go_sem] theorem tp_289 : tkPlaces Tryz.prog 289 = none := by kernel_rfl
@[go_sem] theorem ta_289 : tkArr Tryz.prog 289 = none := by kernel_rfl
@[go_sem] theorem tb_289 : tkBytes Tryz.prog 289 = some 16 := by kernel_rfl
@[go_sem] theorem tn_289 : notInt Tryz.prog 289 = true := by kernel_rfl
@[go_sem] theorem tz_289 : tkZero Tryz.prog 289 = some [.nilIface] := by kernel_rfl
attribute [go_sem] Tryz.underlying292
@[go_sem] theorem tk_292 : tk Tryz.prog 292 = some (1, false) := by kernel_rfl
@[go_sem] theorem tp_292 : tkPlaces Tryz.prog 292 = none := by kernel_rfl
@[go_sem] theorem ta_292 : tkArr Tryz.prog 292 = none := by kernel_rfl
@[go_sem] theorem tb_292 : tkBytes Tryz.prog 292 = some 16 := by kernel_rfl
@[go_sem] theorem tn_292 : notInt Tryz.prog 292 = true := by kernel_rfl
@[go_sem] theorem tz_292 : tkZero Tryz.prog 292 = some [.nilIface] := by kernel_rfl
attribute [go_sem] Tryz.underlying293
@[go_sem] theorem tk_293 : tk Tryz.prog 293 = some (1, false) := by kernel_rfl
@[go_sem] theorem tp_293 : tkPlaces Tryz.prog 293 = none := by kernel_rfl
@[go_sem] theorem ta_293 : tkArr Tryz.prog 293 = none := by kernel_rfl
@[go_sem] theorem tb_293 : tkBytes Tryz.prog 293 = some 16 := by kernel_rfl
@[go_sem] theorem tn_293 : notInt Tryz.prog 293 = true := by kernel_rfl
@[go_sem] theorem tz_293 : tkZero Tryz.prog 293 = some [.nilIface] := by kernel_rfl
attribute [go_sem] Tryz.underlying294
@[go_sem] theorem tk_294 : tk Tryz.prog 294 = some (1, false) := by kernel_rfl
@[go_sem] theorem tp_294 : tkPlaces Tryz.prog 294 = none := by kernel_rfl
@[go_sem] theorem ta_294 : tkArr Tryz.prog 294 = none := by kernel_rfl
@[go_sem] theorem te_294 : tkElem Tryz.prog 294 = some (1, false) := by kernel_rfl
@[go_sem] theorem tb_294 : tkBytes Tryz.prog 294 = some 24 := by kernel_rfl
@[go_sem] theorem tn_294 : notInt Tryz.prog 294 = true := by kernel_rfl
@[go_sem] theorem tz_294 : tkZero Tryz.prog 294 = some [.slice none 0 0] := by kernel_rfl
attribute [go_sem] Tryz.underlying306
@[go_sem] theorem tk_306 : tk Tryz.prog 306 = some (1, false) := by kernel_rfl
@[go_sem] theorem tp_306 : tkPlaces Tryz.prog 306 = none := by kernel_rfl
@[go_sem] theorem ta_306 : tkArr Tryz.prog 306 = none := by kernel_rfl
@[go_sem] theorem tb_306 : tkBytes Tryz.prog 306 = some 8 := by kernel_rfl
@[go_sem] theorem tn_306 : notInt Tryz.prog 306 = true := by kernel_rfl
@[go_sem] theorem tz_306 : tkZero Tryz.prog 306 = some [.nilFunc] := by kernel_rfl
attribute [go_sem] Tryz.underlying313
@[go_sem] theorem tk_313 : tk Tryz.prog 313 = some (3, true) := by kernel_rfl
@[go_sem] theorem tp_313 : tkPlaces Tryz.prog 313 = none := by kernel_rfl
@[go_sem] theorem ta_313 : tkArr Tryz.prog 313 = some 3 := by kernel_rfl
@[go_sem] theorem te_313 : tkElem Tryz.prog 313 = some (1, false) := by kernel_rfl
@[go_sem] theorem tb_313 : tkBytes Tryz.prog 313 = some 24 := by kernel_rfl
@[go_sem] theorem tn_313 : notInt Tryz.prog 313 = true := by kernel_rfl
@[go_sem] theorem tz_313 : tkZero Tryz.prog 313 = some [.int .i64 0, .int .i64 0, .int .i64 0] := by kernel_rfl
attribute [go_sem] Tryz.underlying331
@[go_sem] theorem tk_331 : tk Tryz.prog 331 = some (4, true) := by kernel_rfl
@[go_sem] theorem tp_331 : tkPlaces Tryz.prog 331 = none := by kernel_rfl
@[go_sem] theorem ta_331 : tkArr Tryz.prog 331 = some 4 := by kernel_rfl
@[go_sem] theorem te_331 : tkElem Tryz.prog 331 = some (1, false) := by kernel_rfl
@[go_sem] theorem tb_331 : tkBytes Tryz.prog 331 = some 4 := by kernel_rfl
@[go_sem] theorem tn_331 : notInt Tryz.prog 331 = true := by kernel_rfl
@[go_sem] theorem tz_331 : tkZero Tryz.prog 331 = some [.int .u8 0, .int .u8 0, .int .u8 0, .int .u8 0] := by kernel_rfl
attribute [go_sem] Tryz.underlying333
@[go_sem] theorem tk_333 : tk Tryz.prog 333 = some (1, false) := by kernel_rfl
@[go_sem] theorem tp_333 : tkPlaces Tryz.prog 333 = none := by kernel_rfl
@[go_sem] theorem ta_333 : tkArr Tryz.prog 333 = none := by kernel_rfl
@[go_sem] theorem tb_333 : tkBytes Tryz.prog 333 = some 4 := by kernel_rfl
@[go_sem] theorem tn_333 : notInt Tryz.prog 333 = false := by kernel_rfl
@[go_sem] theorem tz_333 : tkZero Tryz.prog 333 = some [.int .u32 0] := by kernel_rfl
attribute [go_sem] Tryz.underlying335
@[go_sem] theorem tk_335 : tk Tryz.prog 335 = some (1, false) := by kernel_rfl
@[go_sem] theorem tp_335 : tkPlaces Tryz.prog 335 = none := by kernel_rfl
@[go_sem] theorem ta_335 : tkArr Tryz.prog 335 = none := by kernel_rfl
@[go_sem] theorem tb_335 : tkBytes Tryz.prog 335 = some 16 := by kernel_rfl
@[go_sem] theorem tn_335 : notInt Tryz.prog 335 = true := by kernel_rfl
@[go_sem] theorem tz_335 : tkZero Tryz.prog 335 = some [.nilIface] := by kernel_rfl
attribute [go_sem] Tryz.underlying352
@[go_sem] theorem tk_352 : tk Tryz.prog 352 = some (1, false) := by kernel_rfl
@[go_sem] theorem tp_352 : tkPlaces Tryz.prog 352 = none := by kernel_rfl
@[go_sem] theorem ta_352 : tkArr Tryz.prog 352 = none := by kernel_rfl
@[go_sem] theorem tb_352 : tkBytes Tryz.prog 352 = some 8 := by kernel_rfl
@[go_sem] theorem tn_352 : notInt Tryz.prog 352 = false := by kernel_rfl
@[go_sem] theorem tz_352 : tkZero Tryz.prog 352 = some [.int .i64 0] := by kernel_rfl
attribute [go_sem] Tryz.underlying362
@[go_sem] theorem tk_362 : tk Tryz.prog 362 = some (1, false) := by kernel_rfl
@[go_sem] theorem tp_362 : tkPlaces Tryz.prog 362 = none := by kernel_rfl
@[go_sem] theorem ta_362 : tkArr Tryz.prog 362 = none := by kernel_rfl
@[go_sem] theorem tb_362 : tkBytes Tryz.prog 362 = some 8 := by kernel_rfl
@[go_sem] theorem tn_362 : notInt Tryz.prog 362 = false := by kernel_rfl
@[go_sem] theorem tz_362 : tkZero Tryz.prog 362 = some [.int .u64 0] := by kernel_rfl
attribute [go_sem] Tryz.underlying365
@[go_sem] theorem tk_365 : tk Tryz.prog 365 = some (1, false) := by kernel_rfl
@[go_sem] theorem tp_365 : tkPlaces Tryz.prog 365 = none := by kernel_rfl
@[go_sem] theorem ta_365 : tkArr Tryz.prog 365 = none := by kernel_rfl
@[go_sem] theorem tb_365 : tkBytes Tryz.prog 365 = some 8 := by kernel_rfl
@[go_sem] theorem tn_365 : notInt Tryz.prog 365 = true := by kernel_rfl
@[go_sem] theorem tz_365 : tkZero Tryz.prog 365 = some [.pointer none] := by kernel_rfl
end Go.Proofs.YtlmahffjidgplaaGreatDoor
end

section
namespace Go.Proofs.YtlmahffjidgplaaGreatDoor
open Go Go.Av
theorem cl_3 : callable Tryz.prog 3 = true := by kernel_rfl
@[go_sem] theorem rs_3 : Tryz.f3.results.toList = [.tmp 6] := by rfl
theorem cl_4 : callable Tryz.prog 4 = true := by kernel_rfl
@[go_sem] theorem rs_4 : Tryz.f4.results.toList = [.tmp 6] := by rfl
theorem cl_5 : callable Tryz.prog 5 = true := by kernel_rfl
@[go_sem] theorem rs_5 : Tryz.f5.results.toList = [.tmp 4] := by rfl
theorem cl_6 : callable Tryz.prog 6 = true := by kernel_rfl
@[go_sem] theorem rs_6 : Tryz.f6.results.toList = [.tmp 8] := by rfl
theorem cl_7 : callable Tryz.prog 7 = true := by kernel_rfl
@[go_sem] theorem rs_7 : Tryz.f7.results.toList = [.tmp 6] := by rfl
theorem cl_8 : callable Tryz.prog 8 = true := by kernel_rfl
@[go_sem] theorem rs_8 : Tryz.f8.results.toList = [.tmp 4] := by rfl
theorem cl_9 : callable Tryz.prog 9 = true := by kernel_rfl
@[go_sem] theorem rs_9 : Tryz.f9.results.toList = [.tmp 2] := by rfl
theorem cl_10 : callable Tryz.prog 10 = true := by kernel_rfl
@[go_sem] theorem rs_10 : Tryz.f10.results.toList = [.tmp 8] := by rfl
theorem cl_11 : callable Tryz.prog 11 = true := by kernel_rfl
@[go_sem] theorem rs_11 : Tryz.f11.results.toList = [.tmp 0] := by rfl
theorem cl_12 : callable Tryz.prog 12 = true := by kernel_rfl
@[go_sem] theorem rs_12 : Tryz.f12.results.toList = [.tmp 2, .tmp 3] := by rfl
theorem cl_13 : callable Tryz.prog 13 = true := by kernel_rfl
@[go_sem] theorem rs_13 : Tryz.f13.results.toList = [.tmp 2, .tmp 3] := by rfl
theorem cl_14 : callable Tryz.prog 14 = true := by kernel_rfl
@[go_sem] theorem rs_14 : Tryz.f14.results.toList = [.cell 2 26, .tmp 3] := by rfl
theorem cl_15 : callable Tryz.prog 15 = true := by kernel_rfl
@[go_sem] theorem rs_15 : Tryz.f15.results.toList = [.cell 2 26, .tmp 3] := by rfl
theorem cl_16 : callable Tryz.prog 16 = true := by kernel_rfl
@[go_sem] theorem rs_16 : Tryz.f16.results.toList = [.tmp 4] := by rfl
theorem cl_17 : callable Tryz.prog 17 = true := by kernel_rfl
@[go_sem] theorem rs_17 : Tryz.f17.results.toList = [.tmp 2] := by rfl
theorem cl_18 : callable Tryz.prog 18 = true := by kernel_rfl
@[go_sem] theorem rs_18 : Tryz.f18.results.toList = [.tmp 4] := by rfl
theorem cl_19 : callable Tryz.prog 19 = true := by kernel_rfl
@[go_sem] theorem rs_19 : Tryz.f19.results.toList = [.tmp 4] := by rfl
theorem cl_20 : callable Tryz.prog 20 = true := by kernel_rfl
@[go_sem] theorem rs_20 : Tryz.f20.results.toList = [.tmp 2] := by rfl
theorem cl_21 : callable Tryz.prog 21 = true := by kernel_rfl
@[go_sem] theorem rs_21 : Tryz.f21.results.toList = [.cell 0 56, .tmp 1] := by rfl
theorem cl_22 : callable Tryz.prog 22 = true := by kernel_rfl
@[go_sem] theorem rs_22 : Tryz.f22.results.toList = [.tmp 4] := by rfl
theorem cl_23 : callable Tryz.prog 23 = true := by kernel_rfl
@[go_sem] theorem rs_23 : Tryz.f23.results.toList = [.cell 2 26, .tmp 3] := by rfl
theorem cl_24 : callable Tryz.prog 24 = true := by kernel_rfl
@[go_sem] theorem rs_24 : Tryz.f24.results.toList = [.tmp 2] := by rfl
theorem cl_25 : callable Tryz.prog 25 = true := by kernel_rfl
@[go_sem] theorem rs_25 : Tryz.f25.results.toList = [.cell 4 56, .tmp 5] := by rfl
theorem cl_26 : callable Tryz.prog 26 = true := by kernel_rfl
@[go_sem] theorem rs_26 : Tryz.f26.results.toList = [.tmp 4, .tmp 5] := by rfl
theorem cl_27 : callable Tryz.prog 27 = true := by kernel_rfl
@[go_sem] theorem rs_27 : Tryz.f27.results.toList = [.cell 4 54, .tmp 5] := by rfl
theorem cl_28 : callable Tryz.prog 28 = true := by kernel_rfl
@[go_sem] theorem rs_28 : Tryz.f28.results.toList = [] := by rfl
theorem cl_29 : callable Tryz.prog 29 = true := by kernel_rfl
@[go_sem] theorem rs_29 : Tryz.f29.results.toList = [] := by rfl
theorem cl_30 : callable Tryz.prog 30 = true := by kernel_rfl
@[go_sem] theorem rs_30 : Tryz.f30.results.toList = [.tmp 2, .tmp 3] := by rfl
theorem cl_31 : callable Tryz.prog 31 = true := by kernel_rfl
@[go_sem] theorem rs_31 : Tryz.f31.results.toList = [.tmp 2] := by rfl
theorem cl_32 : callable Tryz.prog 32 = true := by kernel_rfl
@[go_sem] theorem rs_32 : Tryz.f32.results.toList = [.tmp 0] := by rfl
theorem cl_33 : callable Tryz.prog 33 = true := by kernel_rfl
@[go_sem] theorem rs_33 : Tryz.f33.results.toList = [.tmp 0, .tmp 1] := by rfl
theorem cl_34 : callable Tryz.prog 34 = true := by kernel_rfl
@[go_sem] theorem rs_34 : Tryz.f34.results.toList = [.cell 2 52, .tmp 3] := by rfl
theorem cl_35 : callable Tryz.prog 35 = true := by kernel_rfl
@[go_sem] theorem rs_35 : Tryz.f35.results.toList = [.cell 6 90, .tmp 7] := by rfl
theorem cl_36 : callable Tryz.prog 36 = true := by kernel_rfl
@[go_sem] theorem rs_36 : Tryz.f36.results.toList = [.cell 8 90, .tmp 9] := by rfl
theorem cl_37 : callable Tryz.prog 37 = true := by kernel_rfl
@[go_sem] theorem rs_37 : Tryz.f37.results.toList = [.tmp 6, .tmp 7] := by rfl
theorem cl_38 : callable Tryz.prog 38 = true := by kernel_rfl
@[go_sem] theorem rs_38 : Tryz.f38.results.toList = [.tmp 2, .tmp 3] := by rfl
theorem cl_39 : callable Tryz.prog 39 = true := by kernel_rfl
@[go_sem] theorem rs_39 : Tryz.f39.results.toList = [.tmp 4] := by rfl
theorem cl_40 : callable Tryz.prog 40 = true := by kernel_rfl
@[go_sem] theorem rs_40 : Tryz.f40.results.toList = [.tmp 2] := by rfl
theorem cl_41 : callable Tryz.prog 41 = true := by kernel_rfl
@[go_sem] theorem rs_41 : Tryz.f41.results.toList = [.tmp 2] := by rfl
theorem cl_42 : callable Tryz.prog 42 = true := by kernel_rfl
@[go_sem] theorem rs_42 : Tryz.f42.results.toList = [.tmp 2] := by rfl
theorem cl_43 : callable Tryz.prog 43 = true := by kernel_rfl
@[go_sem] theorem rs_43 : Tryz.f43.results.toList = [.tmp 4, .tmp 5] := by rfl
theorem cl_44 : callable Tryz.prog 44 = true := by kernel_rfl
@[go_sem] theorem rs_44 : Tryz.f44.results.toList = [.cell 4 94, .tmp 5, .tmp 6] := by rfl
theorem cl_45 : callable Tryz.prog 45 = true := by kernel_rfl
@[go_sem] theorem rs_45 : Tryz.f45.results.toList = [.tmp 4] := by rfl
theorem cl_46 : callable Tryz.prog 46 = true := by kernel_rfl
@[go_sem] theorem rs_46 : Tryz.f46.results.toList = [.tmp 4] := by rfl
theorem cl_47 : callable Tryz.prog 47 = true := by kernel_rfl
@[go_sem] theorem rs_47 : Tryz.f47.results.toList = [.tmp 6, .tmp 7, .cell 8 90] := by rfl
theorem cl_48 : callable Tryz.prog 48 = true := by kernel_rfl
@[go_sem] theorem rs_48 : Tryz.f48.results.toList = [.tmp 4] := by rfl
theorem cl_49 : callable Tryz.prog 49 = true := by kernel_rfl
@[go_sem] theorem rs_49 : Tryz.f49.results.toList = [.tmp 4] := by rfl
theorem cl_50 : callable Tryz.prog 50 = true := by kernel_rfl
@[go_sem] theorem rs_50 : Tryz.f50.results.toList = [.tmp 4] := by rfl
theorem cl_51 : callable Tryz.prog 51 = true := by kernel_rfl
@[go_sem] theorem rs_51 : Tryz.f51.results.toList = [.tmp 6] := by rfl
theorem cl_52 : callable Tryz.prog 52 = true := by kernel_rfl
@[go_sem] theorem rs_52 : Tryz.f52.results.toList = [.tmp 2] := by rfl
theorem cl_53 : callable Tryz.prog 53 = true := by kernel_rfl
@[go_sem] theorem rs_53 : Tryz.f53.results.toList = [.tmp 6] := by rfl
theorem cl_54 : callable Tryz.prog 54 = true := by kernel_rfl
@[go_sem] theorem rs_54 : Tryz.f54.results.toList = [.tmp 4] := by rfl
theorem cl_55 : callable Tryz.prog 55 = true := by kernel_rfl
@[go_sem] theorem rs_55 : Tryz.f55.results.toList = [.tmp 4] := by rfl
theorem cl_56 : callable Tryz.prog 56 = true := by kernel_rfl
@[go_sem] theorem rs_56 : Tryz.f56.results.toList = [.tmp 6] := by rfl
theorem cl_57 : callable Tryz.prog 57 = true := by kernel_rfl
@[go_sem] theorem rs_57 : Tryz.f57.results.toList = [.tmp 4] := by rfl
theorem cl_58 : callable Tryz.prog 58 = true := by kernel_rfl
@[go_sem] theorem rs_58 : Tryz.f58.results.toList = [.tmp 4] := by rfl
theorem cl_59 : callable Tryz.prog 59 = true := by kernel_rfl
@[go_sem] theorem rs_59 : Tryz.f59.results.toList = [.tmp 2] := by rfl
theorem cl_60 : callable Tryz.prog 60 = true := by kernel_rfl
@[go_sem] theorem rs_60 : Tryz.f60.results.toList = [.tmp 4] := by rfl
theorem cl_61 : callable Tryz.prog 61 = true := by kernel_rfl
@[go_sem] theorem rs_61 : Tryz.f61.results.toList = [.cell 2 24] := by rfl
theorem cl_62 : callable Tryz.prog 62 = true := by kernel_rfl
@[go_sem] theorem rs_62 : Tryz.f62.results.toList = [.tmp 2] := by rfl
theorem cl_63 : callable Tryz.prog 63 = true := by kernel_rfl
@[go_sem] theorem rs_63 : Tryz.f63.results.toList = [] := by rfl
theorem cl_64 : callable Tryz.prog 64 = true := by kernel_rfl
@[go_sem] theorem rs_64 : Tryz.f64.results.toList = [.tmp 2] := by rfl
theorem cl_65 : callable Tryz.prog 65 = true := by kernel_rfl
@[go_sem] theorem rs_65 : Tryz.f65.results.toList = [.tmp 2] := by rfl
theorem cl_66 : callable Tryz.prog 66 = true := by kernel_rfl
@[go_sem] theorem rs_66 : Tryz.f66.results.toList = [.cell 4 139, .tmp 5] := by rfl
theorem cl_67 : callable Tryz.prog 67 = true := by kernel_rfl
@[go_sem] theorem rs_67 : Tryz.f67.results.toList = [.cell 2 139, .cell 3 24] := by rfl
theorem cl_68 : callable Tryz.prog 68 = true := by kernel_rfl
@[go_sem] theorem rs_68 : Tryz.f68.results.toList = [.tmp 2] := by rfl
theorem cl_69 : callable Tryz.prog 69 = true := by kernel_rfl
@[go_sem] theorem rs_69 : Tryz.f69.results.toList = [.tmp 4] := by rfl
theorem cl_70 : callable Tryz.prog 70 = true := by kernel_rfl
@[go_sem] theorem rs_70 : Tryz.f70.results.toList = [.tmp 4] := by rfl
theorem cl_71 : callable Tryz.prog 71 = true := by kernel_rfl
@[go_sem] theorem rs_71 : Tryz.f71.results.toList = [.tmp 4] := by rfl
theorem cl_72 : callable Tryz.prog 72 = true := by kernel_rfl
@[go_sem] theorem rs_72 : Tryz.f72.results.toList = [.tmp 2, .tmp 3] := by rfl
theorem cl_73 : callable Tryz.prog 73 = true := by kernel_rfl
@[go_sem] theorem rs_73 : Tryz.f73.results.toList = [.cell 4 56, .tmp 5] := by rfl
theorem cl_74 : callable Tryz.prog 74 = true := by kernel_rfl
@[go_sem] theorem rs_74 : Tryz.f74.results.toList = [.tmp 8] := by rfl
theorem cl_75 : callable Tryz.prog 75 = true := by kernel_rfl
@[go_sem] theorem rs_75 : Tryz.f75.results.toList = [.cell 2 24] := by rfl
theorem cl_76 : callable Tryz.prog 76 = true := by kernel_rfl
@[go_sem] theorem rs_76 : Tryz.f76.results.toList = [.cell 4 54, .tmp 5] := by rfl
theorem cl_77 : callable Tryz.prog 77 = true := by kernel_rfl
@[go_sem] theorem rs_77 : Tryz.f77.results.toList = [.cell 4 50] := by rfl
theorem cl_78 : callable Tryz.prog 78 = true := by kernel_rfl
@[go_sem] theorem rs_78 : Tryz.f78.results.toList = [.cell 4 50] := by rfl
theorem cl_79 : callable Tryz.prog 79 = true := by kernel_rfl
@[go_sem] theorem rs_79 : Tryz.f79.results.toList = [.tmp 2] := by rfl
theorem cl_80 : callable Tryz.prog 80 = true := by kernel_rfl
@[go_sem] theorem rs_80 : Tryz.f80.results.toList = [.cell 6 162, .tmp 7] := by rfl
theorem cl_81 : callable Tryz.prog 81 = true := by kernel_rfl
@[go_sem] theorem rs_81 : Tryz.f81.results.toList = [.tmp 4] := by rfl
theorem cl_82 : callable Tryz.prog 82 = true := by kernel_rfl
@[go_sem] theorem rs_82 : Tryz.f82.results.toList = [.cell 6 162, .tmp 7] := by rfl
theorem cl_83 : callable Tryz.prog 83 = true := by kernel_rfl
@[go_sem] theorem rs_83 : Tryz.f83.results.toList = [] := by rfl
theorem cl_84 : callable Tryz.prog 84 = true := by kernel_rfl
@[go_sem] theorem rs_84 : Tryz.f84.results.toList = [.tmp 2] := by rfl
theorem cl_85 : callable Tryz.prog 85 = true := by kernel_rfl
@[go_sem] theorem rs_85 : Tryz.f85.results.toList = [.tmp 2] := by rfl
theorem cl_86 : callable Tryz.prog 86 = true := by kernel_rfl
@[go_sem] theorem rs_86 : Tryz.f86.results.toList = [.tmp 2, .tmp 3] := by rfl
theorem cl_87 : callable Tryz.prog 87 = true := by kernel_rfl
@[go_sem] theorem rs_87 : Tryz.f87.results.toList = [.tmp 4, .tmp 5] := by rfl
theorem cl_88 : callable Tryz.prog 88 = true := by kernel_rfl
@[go_sem] theorem rs_88 : Tryz.f88.results.toList = [.tmp 4] := by rfl
theorem cl_89 : callable Tryz.prog 89 = true := by kernel_rfl
@[go_sem] theorem rs_89 : Tryz.f89.results.toList = [.tmp 2] := by rfl
theorem cl_90 : callable Tryz.prog 90 = true := by kernel_rfl
@[go_sem] theorem rs_90 : Tryz.f90.results.toList = [.tmp 2] := by rfl
theorem cl_91 : callable Tryz.prog 91 = true := by kernel_rfl
@[go_sem] theorem rs_91 : Tryz.f91.results.toList = [.tmp 2] := by rfl
theorem cl_92 : callable Tryz.prog 92 = true := by kernel_rfl
@[go_sem] theorem rs_92 : Tryz.f92.results.toList = [.tmp 2, .tmp 3] := by rfl
theorem cl_93 : callable Tryz.prog 93 = true := by kernel_rfl
@[go_sem] theorem rs_93 : Tryz.f93.results.toList = [.cell 4 90, .tmp 5, .tmp 6] := by rfl
theorem cl_94 : callable Tryz.prog 94 = true := by kernel_rfl
@[go_sem] theorem rs_94 : Tryz.f94.results.toList = [.cell 4 94, .tmp 5] := by rfl
theorem cl_95 : callable Tryz.prog 95 = true := by kernel_rfl
@[go_sem] theorem rs_95 : Tryz.f95.results.toList = [.tmp 4] := by rfl
theorem cl_96 : callable Tryz.prog 96 = true := by kernel_rfl
@[go_sem] theorem rs_96 : Tryz.f96.results.toList = [.cell 4 90, .tmp 5, .tmp 6] := by rfl
theorem cl_97 : callable Tryz.prog 97 = true := by kernel_rfl
@[go_sem] theorem rs_97 : Tryz.f97.results.toList = [.cell 6 90, .tmp 7, .tmp 8] := by rfl
theorem cl_98 : callable Tryz.prog 98 = true := by kernel_rfl
@[go_sem] theorem rs_98 : Tryz.f98.results.toList = [.tmp 2] := by rfl
theorem cl_99 : callable Tryz.prog 99 = true := by kernel_rfl
@[go_sem] theorem rs_99 : Tryz.f99.results.toList = [.tmp 6, .tmp 7] := by rfl
theorem cl_100 : callable Tryz.prog 100 = true := by kernel_rfl
@[go_sem] theorem rs_100 : Tryz.f100.results.toList = [.cell 2 90, .tmp 3] := by rfl
theorem cl_101 : callable Tryz.prog 101 = true := by kernel_rfl
@[go_sem] theorem rs_101 : Tryz.f101.results.toList = [.tmp 4, .tmp 5] := by rfl
theorem cl_102 : callable Tryz.prog 102 = true := by kernel_rfl
@[go_sem] theorem rs_102 : Tryz.f102.results.toList = [.cell 2 203] := by rfl
theorem cl_103 : callable Tryz.prog 103 = true := by kernel_rfl
@[go_sem] theorem rs_103 : Tryz.f103.results.toList = [.tmp 4, .tmp 5, .tmp 6] := by rfl
theorem cl_104 : callable Tryz.prog 104 = true := by kernel_rfl
@[go_sem] theorem rs_104 : Tryz.f104.results.toList = [.cell 6 30] := by rfl
theorem cl_105 : callable Tryz.prog 105 = true := by kernel_rfl
@[go_sem] theorem rs_105 : Tryz.f105.results.toList = [.tmp 4] := by rfl
theorem cl_106 : callable Tryz.prog 106 = true := by kernel_rfl
@[go_sem] theorem rs_106 : Tryz.f106.results.toList = [.tmp 4] := by rfl
theorem cl_107 : callable Tryz.prog 107 = true := by kernel_rfl
@[go_sem] theorem rs_107 : Tryz.f107.results.toList = [.tmp 4] := by rfl
theorem cl_108 : callable Tryz.prog 108 = true := by kernel_rfl
@[go_sem] theorem rs_108 : Tryz.f108.results.toList = [.tmp 2] := by rfl
theorem cl_109 : callable Tryz.prog 109 = true := by kernel_rfl
@[go_sem] theorem rs_109 : Tryz.f109.results.toList = [.tmp 2, .tmp 3] := by rfl
theorem cl_110 : callable Tryz.prog 110 = true := by kernel_rfl
@[go_sem] theorem rs_110 : Tryz.f110.results.toList = [.tmp 2, .tmp 3] := by rfl
theorem cl_111 : callable Tryz.prog 111 = true := by kernel_rfl
@[go_sem] theorem rs_111 : Tryz.f111.results.toList = [.tmp 4] := by rfl
theorem cl_112 : callable Tryz.prog 112 = true := by kernel_rfl
@[go_sem] theorem rs_112 : Tryz.f112.results.toList = [.tmp 4] := by rfl
theorem cl_113 : callable Tryz.prog 113 = true := by kernel_rfl
@[go_sem] theorem rs_113 : Tryz.f113.results.toList = [.tmp 2] := by rfl
theorem cl_114 : callable Tryz.prog 114 = true := by kernel_rfl
@[go_sem] theorem rs_114 : Tryz.f114.results.toList = [.tmp 2] := by rfl
theorem cl_115 : callable Tryz.prog 115 = true := by kernel_rfl
@[go_sem] theorem rs_115 : Tryz.f115.results.toList = [.tmp 2] := by rfl
theorem cl_116 : callable Tryz.prog 116 = true := by kernel_rfl
@[go_sem] theorem rs_116 : Tryz.f116.results.toList = [.cell 4 139] := by rfl
theorem cl_117 : callable Tryz.prog 117 = true := by kernel_rfl
@[go_sem] theorem rs_117 : Tryz.f117.results.toList = [.cell 2 139, .tmp 3] := by rfl
theorem cl_121 : callable Tryz.prog 121 = true := by kernel_rfl
@[go_sem] theorem rs_121 : Tryz.f121.results.toList = [.tmp 8] := by rfl
theorem cl_122 : callable Tryz.prog 122 = true := by kernel_rfl
@[go_sem] theorem rs_122 : Tryz.f122.results.toList = [.tmp 4] := by rfl
theorem cl_123 : callable Tryz.prog 123 = true := by kernel_rfl
@[go_sem] theorem rs_123 : Tryz.f123.results.toList = [.tmp 8] := by rfl
theorem cl_124 : callable Tryz.prog 124 = true := by kernel_rfl
@[go_sem] theorem rs_124 : Tryz.f124.results.toList = [.tmp 2] := by rfl
theorem cl_125 : callable Tryz.prog 125 = true := by kernel_rfl
@[go_sem] theorem rs_125 : Tryz.f125.results.toList = [.tmp 2] := by rfl
theorem cl_126 : callable Tryz.prog 126 = true := by kernel_rfl
@[go_sem] theorem rs_126 : Tryz.f126.results.toList = [.cell 8 52, .tmp 9] := by rfl
theorem cl_127 : callable Tryz.prog 127 = true := by kernel_rfl
@[go_sem] theorem rs_127 : Tryz.f127.results.toList = [.tmp 6] := by rfl
theorem cl_128 : callable Tryz.prog 128 = true := by kernel_rfl
@[go_sem] theorem rs_128 : Tryz.f128.results.toList = [.tmp 4, .tmp 5] := by rfl
theorem cl_129 : callable Tryz.prog 129 = true := by kernel_rfl
@[go_sem] theorem rs_129 : Tryz.f129.results.toList = [.cell 2 162, .tmp 3] := by rfl
theorem cl_130 : callable Tryz.prog 130 = true := by kernel_rfl
@[go_sem] theorem rs_130 : Tryz.f130.results.toList = [.tmp 4] := by rfl
theorem cl_131 : callable Tryz.prog 131 = true := by kernel_rfl
@[go_sem] theorem rs_131 : Tryz.f131.results.toList = [.tmp 4, .tmp 5] := by rfl
theorem cl_132 : callable Tryz.prog 132 = true := by kernel_rfl
@[go_sem] theorem rs_132 : Tryz.f132.results.toList = [.cell 2 162, .tmp 3] := by rfl
theorem cl_133 : callable Tryz.prog 133 = true := by kernel_rfl
@[go_sem] theorem rs_133 : Tryz.f133.results.toList = [.tmp 2] := by rfl
theorem cl_134 : callable Tryz.prog 134 = true := by kernel_rfl
@[go_sem] theorem rs_134 : Tryz.f134.results.toList = [.tmp 2] := by rfl
theorem cl_135 : callable Tryz.prog 135 = true := by kernel_rfl
@[go_sem] theorem rs_135 : Tryz.f135.results.toList = [.tmp 2] := by rfl
theorem cl_136 : callable Tryz.prog 136 = true := by kernel_rfl
@[go_sem] theorem rs_136 : Tryz.f136.results.toList = [.tmp 2] := by rfl
theorem cl_137 : callable Tryz.prog 137 = true := by kernel_rfl
@[go_sem] theorem rs_137 : Tryz.f137.results.toList = [.tmp 2] := by rfl
theorem cl_138 : callable Tryz.prog 138 = true := by kernel_rfl
@[go_sem] theorem rs_138 : Tryz.f138.results.toList = [.cell 4 27] := by rfl
theorem cl_139 : callable Tryz.prog 139 = true := by kernel_rfl
@[go_sem] theorem rs_139 : Tryz.f139.results.toList = [.tmp 2] := by rfl
theorem cl_140 : callable Tryz.prog 140 = true := by kernel_rfl
@[go_sem] theorem rs_140 : Tryz.f140.results.toList = [.tmp 2] := by rfl
theorem cl_141 : callable Tryz.prog 141 = true := by kernel_rfl
@[go_sem] theorem rs_141 : Tryz.f141.results.toList = [.tmp 4, .tmp 5] := by rfl
theorem cl_142 : callable Tryz.prog 142 = true := by kernel_rfl
@[go_sem] theorem rs_142 : Tryz.f142.results.toList = [.tmp 4] := by rfl
theorem cl_143 : callable Tryz.prog 143 = true := by kernel_rfl
@[go_sem] theorem rs_143 : Tryz.f143.results.toList = [.tmp 4] := by rfl
theorem cl_144 : callable Tryz.prog 144 = true := by kernel_rfl
@[go_sem] theorem rs_144 : Tryz.f144.results.toList = [.tmp 4] := by rfl
theorem cl_145 : callable Tryz.prog 145 = true := by kernel_rfl
@[go_sem] theorem rs_145 : Tryz.f145.results.toList = [.tmp 2] := by rfl
theorem cl_146 : callable Tryz.prog 146 = true := by kernel_rfl
@[go_sem] theorem rs_146 : Tryz.f146.results.toList = [.tmp 2] := by rfl
theorem cl_147 : callable Tryz.prog 147 = true := by kernel_rfl
@[go_sem] theorem rs_147 : Tryz.f147.results.toList = [.tmp 4, .tmp 5, .tmp 6] := by rfl
theorem cl_148 : callable Tryz.prog 148 = true := by kernel_rfl
@[go_sem] theorem rs_148 : Tryz.f148.results.toList = [.tmp 2] := by rfl
theorem cl_149 : callable Tryz.prog 149 = true := by kernel_rfl
@[go_sem] theorem rs_149 : Tryz.f149.results.toList = [.cell 4 90] := by rfl
theorem cl_150 : callable Tryz.prog 150 = true := by kernel_rfl
@[go_sem] theorem rs_150 : Tryz.f150.results.toList = [.tmp 4] := by rfl
theorem cl_151 : callable Tryz.prog 151 = true := by kernel_rfl
@[go_sem] theorem rs_151 : Tryz.f151.results.toList = [.tmp 2] := by rfl
theorem cl_152 : callable Tryz.prog 152 = true := by kernel_rfl
@[go_sem] theorem rs_152 : Tryz.f152.results.toList = [.tmp 2] := by rfl
theorem cl_153 : callable Tryz.prog 153 = true := by kernel_rfl
@[go_sem] theorem rs_153 : Tryz.f153.results.toList = [.tmp 4] := by rfl
theorem cl_154 : callable Tryz.prog 154 = true := by kernel_rfl
@[go_sem] theorem rs_154 : Tryz.f154.results.toList = [.tmp 2] := by rfl
theorem cl_155 : callable Tryz.prog 155 = true := by kernel_rfl
@[go_sem] theorem rs_155 : Tryz.f155.results.toList = [.tmp 4] := by rfl
theorem cl_156 : callable Tryz.prog 156 = true := by kernel_rfl
@[go_sem] theorem rs_156 : Tryz.f156.results.toList = [.tmp 2] := by rfl
theorem cl_157 : callable Tryz.prog 157 = true := by kernel_rfl
@[go_sem] theorem rs_157 : Tryz.f157.results.toList = [.tmp 4] := by rfl
theorem cl_158 : callable Tryz.prog 158 = true := by kernel_rfl
@[go_sem] theorem rs_158 : Tryz.f158.results.toList = [.cell 4 52, .tmp 5] := by rfl
theorem cl_159 : callable Tryz.prog 159 = true := by kernel_rfl
@[go_sem] theorem rs_159 : Tryz.f159.results.toList = [.cell 2 52, .tmp 3] := by rfl
theorem cl_160 : callable Tryz.prog 160 = true := by kernel_rfl
@[go_sem] theorem rs_160 : Tryz.f160.results.toList = [.tmp 2, .tmp 3] := by rfl
theorem cl_161 : callable Tryz.prog 161 = true := by kernel_rfl
@[go_sem] theorem rs_161 : Tryz.f161.results.toList = [.cell 2 203] := by rfl
theorem cl_162 : callable Tryz.prog 162 = true := by kernel_rfl
@[go_sem] theorem rs_162 : Tryz.f162.results.toList = [.tmp 2] := by rfl
theorem cl_163 : callable Tryz.prog 163 = true := by kernel_rfl
@[go_sem] theorem rs_163 : Tryz.f163.results.toList = [.tmp 2] := by rfl
theorem cl_164 : callable Tryz.prog 164 = true := by kernel_rfl
@[go_sem] theorem rs_164 : Tryz.f164.results.toList = [.cell 2 94] := by rfl
theorem cl_165 : callable Tryz.prog 165 = true := by kernel_rfl
@[go_sem] theorem rs_165 : Tryz.f165.results.toList = [] := by rfl
theorem cl_166 : callable Tryz.prog 166 = true := by kernel_rfl
@[go_sem] theorem rs_166 : Tryz.f166.results.toList = [.tmp 2] := by rfl
theorem cl_167 : callable Tryz.prog 167 = true := by kernel_rfl
@[go_sem] theorem rs_167 : Tryz.f167.results.toList = [.tmp 4] := by rfl
theorem cl_168 : callable Tryz.prog 168 = true := by kernel_rfl
@[go_sem] theorem rs_168 : Tryz.f168.results.toList = [.tmp 3] := by rfl
theorem cl_169 : callable Tryz.prog 169 = true := by kernel_rfl
@[go_sem] theorem rs_169 : Tryz.f169.results.toList = [.tmp 2] := by rfl
theorem cl_170 : callable Tryz.prog 170 = true := by kernel_rfl
@[go_sem] theorem rs_170 : Tryz.f170.results.toList = [.tmp 2, .tmp 3] := by rfl
theorem cl_174 : callable Tryz.prog 174 = true := by kernel_rfl
@[go_sem] theorem rs_174 : Tryz.f174.results.toList = [.tmp 2, .tmp 3] := by rfl
theorem cl_175 : callable Tryz.prog 175 = true := by kernel_rfl
@[go_sem] theorem rs_175 : Tryz.f175.results.toList = [.tmp 6] := by rfl
theorem cl_176 : callable Tryz.prog 176 = true := by kernel_rfl
@[go_sem] theorem rs_176 : Tryz.f176.results.toList = [.tmp 2] := by rfl
theorem cl_177 : callable Tryz.prog 177 = true := by kernel_rfl
@[go_sem] theorem rs_177 : Tryz.f177.results.toList = [.cell 8 52, .tmp 9] := by rfl
theorem cl_178 : callable Tryz.prog 178 = true := by kernel_rfl
@[go_sem] theorem rs_178 : Tryz.f178.results.toList = [.tmp 6] := by rfl
theorem cl_179 : callable Tryz.prog 179 = true := by kernel_rfl
@[go_sem] theorem rs_179 : Tryz.f179.results.toList = [.tmp 4] := by rfl
theorem cl_180 : callable Tryz.prog 180 = true := by kernel_rfl
@[go_sem] theorem rs_180 : Tryz.f180.results.toList = [.tmp 6] := by rfl
theorem cl_181 : callable Tryz.prog 181 = true := by kernel_rfl
@[go_sem] theorem rs_181 : Tryz.f181.results.toList = [.tmp 2] := by rfl
theorem cl_182 : callable Tryz.prog 182 = true := by kernel_rfl
@[go_sem] theorem rs_182 : Tryz.f182.results.toList = [.tmp 2] := by rfl
theorem cl_183 : callable Tryz.prog 183 = true := by kernel_rfl
@[go_sem] theorem rs_183 : Tryz.f183.results.toList = [.tmp 6] := by rfl
theorem cl_184 : callable Tryz.prog 184 = true := by kernel_rfl
@[go_sem] theorem rs_184 : Tryz.f184.results.toList = [.tmp 4] := by rfl
theorem cl_185 : callable Tryz.prog 185 = true := by kernel_rfl
@[go_sem] theorem rs_185 : Tryz.f185.results.toList = [.tmp 2] := by rfl
theorem cl_186 : callable Tryz.prog 186 = true := by kernel_rfl
@[go_sem] theorem rs_186 : Tryz.f186.results.toList = [.tmp 2] := by rfl
theorem cl_187 : callable Tryz.prog 187 = true := by kernel_rfl
@[go_sem] theorem rs_187 : Tryz.f187.results.toList = [.tmp 4] := by rfl
theorem cl_188 : callable Tryz.prog 188 = true := by kernel_rfl
@[go_sem] theorem rs_188 : Tryz.f188.results.toList = [.tmp 2] := by rfl
theorem cl_190 : callable Tryz.prog 190 = true := by kernel_rfl
@[go_sem] theorem rs_190 : Tryz.f190.results.toList = [.tmp 2] := by rfl
theorem cl_191 : callable Tryz.prog 191 = true := by kernel_rfl
@[go_sem] theorem rs_191 : Tryz.f191.results.toList = [] := by rfl
theorem cl_192 : callable Tryz.prog 192 = true := by kernel_rfl
@[go_sem] theorem rs_192 : Tryz.f192.results.toList = [] := by rfl
theorem cl_193 : callable Tryz.prog 193 = true := by kernel_rfl
@[go_sem] theorem rs_193 : Tryz.f193.results.toList = [.tmp 2] := by rfl
theorem cl_194 : callable Tryz.prog 194 = true := by kernel_rfl
@[go_sem] theorem rs_194 : Tryz.f194.results.toList = [.tmp 6] := by rfl
theorem cl_195 : callable Tryz.prog 195 = true := by kernel_rfl
@[go_sem] theorem rs_195 : Tryz.f195.results.toList = [.cell 2 313] := by rfl
theorem cl_196 : callable Tryz.prog 196 = true := by kernel_rfl
@[go_sem] theorem rs_196 : Tryz.f196.results.toList = [.tmp 8] := by rfl
theorem cl_197 : callable Tryz.prog 197 = true := by kernel_rfl
@[go_sem] theorem rs_197 : Tryz.f197.results.toList = [.tmp 2] := by rfl
theorem cl_198 : callable Tryz.prog 198 = true := by kernel_rfl
@[go_sem] theorem rs_198 : Tryz.f198.results.toList = [.tmp 2] := by rfl
theorem cl_199 : callable Tryz.prog 199 = true := by kernel_rfl
@[go_sem] theorem rs_199 : Tryz.f199.results.toList = [.tmp 4] := by rfl
theorem cl_200 : callable Tryz.prog 200 = true := by kernel_rfl
@[go_sem] theorem rs_200 : Tryz.f200.results.toList = [.tmp 2] := by rfl
theorem cl_201 : callable Tryz.prog 201 = true := by kernel_rfl
@[go_sem] theorem rs_201 : Tryz.f201.results.toList = [.tmp 2] := by rfl
theorem cl_202 : callable Tryz.prog 202 = true := by kernel_rfl
@[go_sem] theorem rs_202 : Tryz.f202.results.toList = [.cell 4 50, .tmp 5] := by rfl
theorem cl_203 : callable Tryz.prog 203 = true := by kernel_rfl
@[go_sem] theorem rs_203 : Tryz.f203.results.toList = [.cell 2 50, .tmp 3] := by rfl
theorem cl_204 : callable Tryz.prog 204 = true := by kernel_rfl
@[go_sem] theorem rs_204 : Tryz.f204.results.toList = [.tmp 2, .tmp 3] := by rfl
theorem cl_205 : callable Tryz.prog 205 = true := by kernel_rfl
@[go_sem] theorem rs_205 : Tryz.f205.results.toList = [.cell 4 203] := by rfl
theorem cl_206 : callable Tryz.prog 206 = true := by kernel_rfl
@[go_sem] theorem rs_206 : Tryz.f206.results.toList = [.tmp 2] := by rfl
theorem cl_207 : callable Tryz.prog 207 = true := by kernel_rfl
@[go_sem] theorem rs_207 : Tryz.f207.results.toList = [] := by rfl
theorem cl_208 : callable Tryz.prog 208 = true := by kernel_rfl
@[go_sem] theorem rs_208 : Tryz.f208.results.toList = [.tmp 2] := by rfl
theorem cl_209 : callable Tryz.prog 209 = true := by kernel_rfl
@[go_sem] theorem rs_209 : Tryz.f209.results.toList = [.tmp 4] := by rfl
theorem cl_210 : callable Tryz.prog 210 = true := by kernel_rfl
@[go_sem] theorem rs_210 : Tryz.f210.results.toList = [.tmp 2] := by rfl
theorem cl_211 : callable Tryz.prog 211 = true := by kernel_rfl
@[go_sem] theorem rs_211 : Tryz.f211.results.toList = [.cell 2 139, .cell 3 94] := by rfl
theorem cl_212 : callable Tryz.prog 212 = true := by kernel_rfl
@[go_sem] theorem rs_212 : Tryz.f212.results.toList = [.tmp 2] := by rfl
theorem cl_213 : callable Tryz.prog 213 = true := by kernel_rfl
@[go_sem] theorem rs_213 : Tryz.f213.results.toList = [.tmp 2, .tmp 3] := by rfl
theorem cl_214 : callable Tryz.prog 214 = true := by kernel_rfl
@[go_sem] theorem rs_214 : Tryz.f214.results.toList = [.cell 6 50, .tmp 7] := by rfl
theorem cl_215 : callable Tryz.prog 215 = true := by kernel_rfl
@[go_sem] theorem rs_215 : Tryz.f215.results.toList = [.cell 2 331] := by rfl
theorem cl_216 : callable Tryz.prog 216 = true := by kernel_rfl
@[go_sem] theorem rs_216 : Tryz.f216.results.toList = [.tmp 2] := by rfl
theorem cl_217 : callable Tryz.prog 217 = true := by kernel_rfl
@[go_sem] theorem rs_217 : Tryz.f217.results.toList = [.tmp 2] := by rfl
theorem cl_218 : callable Tryz.prog 218 = true := by kernel_rfl
@[go_sem] theorem rs_218 : Tryz.f218.results.toList = [.tmp 4] := by rfl
theorem cl_219 : callable Tryz.prog 219 = true := by kernel_rfl
@[go_sem] theorem rs_219 : Tryz.f219.results.toList = [.tmp 4] := by rfl
theorem cl_220 : callable Tryz.prog 220 = true := by kernel_rfl
@[go_sem] theorem rs_220 : Tryz.f220.results.toList = [] := by rfl
theorem cl_221 : callable Tryz.prog 221 = true := by kernel_rfl
@[go_sem] theorem rs_221 : Tryz.f221.results.toList = [.tmp 2] := by rfl
theorem cl_222 : callable Tryz.prog 222 = true := by kernel_rfl
@[go_sem] theorem rs_222 : Tryz.f222.results.toList = [] := by rfl
theorem cl_223 : callable Tryz.prog 223 = true := by kernel_rfl
@[go_sem] theorem rs_223 : Tryz.f223.results.toList = [.tmp 2] := by rfl
theorem cl_224 : callable Tryz.prog 224 = true := by kernel_rfl
@[go_sem] theorem rs_224 : Tryz.f224.results.toList = [.tmp 4] := by rfl
theorem cl_225 : callable Tryz.prog 225 = true := by kernel_rfl
@[go_sem] theorem rs_225 : Tryz.f225.results.toList = [.cell 4 50, .tmp 5] := by rfl
theorem cl_226 : callable Tryz.prog 226 = true := by kernel_rfl
@[go_sem] theorem rs_226 : Tryz.f226.results.toList = [.cell 2 50, .tmp 3] := by rfl
theorem cl_227 : callable Tryz.prog 227 = true := by kernel_rfl
@[go_sem] theorem rs_227 : Tryz.f227.results.toList = [.cell 2 94] := by rfl
theorem cl_228 : callable Tryz.prog 228 = true := by kernel_rfl
@[go_sem] theorem rs_228 : Tryz.f228.results.toList = [.tmp 2] := by rfl
theorem cl_229 : callable Tryz.prog 229 = true := by kernel_rfl
@[go_sem] theorem rs_229 : Tryz.f229.results.toList = [.tmp 4] := by rfl
theorem cl_230 : callable Tryz.prog 230 = true := by kernel_rfl
@[go_sem] theorem rs_230 : Tryz.f230.results.toList = [.cell 4 139, .tmp 5] := by rfl
theorem cl_231 : callable Tryz.prog 231 = true := by kernel_rfl
@[go_sem] theorem rs_231 : Tryz.f231.results.toList = [.tmp 4] := by rfl
theorem cl_232 : callable Tryz.prog 232 = true := by kernel_rfl
@[go_sem] theorem rs_232 : Tryz.f232.results.toList = [.tmp 2] := by rfl
theorem cl_233 : callable Tryz.prog 233 = true := by kernel_rfl
@[go_sem] theorem rs_233 : Tryz.f233.results.toList = [] := by rfl
theorem cl_234 : callable Tryz.prog 234 = true := by kernel_rfl
@[go_sem] theorem rs_234 : Tryz.f234.results.toList = [] := by rfl
theorem cl_235 : callable Tryz.prog 235 = true := by kernel_rfl
@[go_sem] theorem rs_235 : Tryz.f235.results.toList = [] := by rfl
theorem cl_236 : callable Tryz.prog 236 = true := by kernel_rfl
@[go_sem] theorem rs_236 : Tryz.f236.results.toList = [.tmp 6, .tmp 7] := by rfl
theorem cl_237 : callable Tryz.prog 237 = true := by kernel_rfl
@[go_sem] theorem rs_237 : Tryz.f237.results.toList = [] := by rfl
theorem cl_238 : callable Tryz.prog 238 = true := by kernel_rfl
@[go_sem] theorem rs_238 : Tryz.f238.results.toList = [.tmp 6] := by rfl
theorem cl_239 : callable Tryz.prog 239 = true := by kernel_rfl
@[go_sem] theorem rs_239 : Tryz.f239.results.toList = [.tmp 4] := by rfl
theorem cl_240 : callable Tryz.prog 240 = true := by kernel_rfl
@[go_sem] theorem rs_240 : Tryz.f240.results.toList = [.tmp 8] := by rfl
theorem cl_241 : callable Tryz.prog 241 = true := by kernel_rfl
@[go_sem] theorem rs_241 : Tryz.f241.results.toList = [.tmp 8, .tmp 9] := by rfl
theorem cl_242 : callable Tryz.prog 242 = true := by kernel_rfl
@[go_sem] theorem rs_242 : Tryz.f242.results.toList = [.tmp 2] := by rfl
theorem cl_243 : callable Tryz.prog 243 = true := by kernel_rfl
@[go_sem] theorem rs_243 : Tryz.f243.results.toList = [.tmp 2] := by rfl
theorem cl_244 : callable Tryz.prog 244 = true := by kernel_rfl
@[go_sem] theorem rs_244 : Tryz.f244.results.toList = [.tmp 4] := by rfl
theorem cl_245 : callable Tryz.prog 245 = true := by kernel_rfl
@[go_sem] theorem rs_245 : Tryz.f245.results.toList = [.tmp 2] := by rfl
theorem cl_246 : callable Tryz.prog 246 = true := by kernel_rfl
@[go_sem] theorem rs_246 : Tryz.f246.results.toList = [] := by rfl
theorem cl_247 : callable Tryz.prog 247 = true := by kernel_rfl
@[go_sem] theorem rs_247 : Tryz.f247.results.toList = [.tmp 2] := by rfl
theorem cl_248 : callable Tryz.prog 248 = true := by kernel_rfl
@[go_sem] theorem rs_248 : Tryz.f248.results.toList = [.tmp 2] := by rfl
theorem cl_249 : callable Tryz.prog 249 = true := by kernel_rfl
@[go_sem] theorem rs_249 : Tryz.f249.results.toList = [.tmp 6] := by rfl
theorem cl_250 : callable Tryz.prog 250 = true := by kernel_rfl
@[go_sem] theorem rs_250 : Tryz.f250.results.toList = [.tmp 10] := by rfl
theorem cl_251 : callable Tryz.prog 251 = true := by kernel_rfl
@[go_sem] theorem rs_251 : Tryz.f251.results.toList = [.tmp 2] := by rfl
theorem cl_252 : callable Tryz.prog 252 = true := by kernel_rfl
@[go_sem] theorem rs_252 : Tryz.f252.results.toList = [.tmp 8, .tmp 9] := by rfl
theorem cl_272 : callable Tryz.prog 272 = true := by kernel_rfl
@[go_sem] theorem rs_272 : Tryz.f272.results.toList = [.tmp 4] := by rfl
theorem cl_273 : callable Tryz.prog 273 = true := by kernel_rfl
@[go_sem] theorem rs_273 : Tryz.f273.results.toList = [.tmp 2] := by rfl
attribute [go_sem] Tryz.ntmps3 Tryz.ntmps4 Tryz.ntmps5 Tryz.ntmps6 Tryz.ntmps7 Tryz.ntmps8 Tryz.ntmps9 Tryz.ntmps10 Tryz.ntmps11 Tryz.ntmps12 Tryz.ntmps13 Tryz.ntmps14 Tryz.ntmps15 Tryz.ntmps16 Tryz.ntmps17 Tryz.ntmps18 Tryz.ntmps19 Tryz.ntmps20 Tryz.ntmps21 Tryz.ntmps22
attribute [go_sem] Tryz.ntmps23 Tryz.ntmps24 Tryz.ntmps25 Tryz.ntmps26 Tryz.ntmps27 Tryz.ntmps28 Tryz.ntmps29 Tryz.ntmps30 Tryz.ntmps31 Tryz.ntmps32 Tryz.ntmps33 Tryz.ntmps34 Tryz.ntmps35 Tryz.ntmps36 Tryz.ntmps37 Tryz.ntmps38 Tryz.ntmps39 Tryz.ntmps40 Tryz.ntmps41 Tryz.ntmps42
attribute [go_sem] Tryz.ntmps43 Tryz.ntmps44 Tryz.ntmps45 Tryz.ntmps46 Tryz.ntmps47 Tryz.ntmps48 Tryz.ntmps49 Tryz.ntmps50 Tryz.ntmps51 Tryz.ntmps52 Tryz.ntmps53 Tryz.ntmps54 Tryz.ntmps55 Tryz.ntmps56 Tryz.ntmps57 Tryz.ntmps58 Tryz.ntmps59 Tryz.ntmps60 Tryz.ntmps61 Tryz.ntmps62
attribute [go_sem] Tryz.ntmps63 Tryz.ntmps64 Tryz.ntmps65 Tryz.ntmps66 Tryz.ntmps67 Tryz.ntmps68 Tryz.ntmps69 Tryz.ntmps70 Tryz.ntmps71 Tryz.ntmps72 Tryz.ntmps73 Tryz.ntmps74 Tryz.ntmps75 Tryz.ntmps76 Tryz.ntmps77 Tryz.ntmps78 Tryz.ntmps79 Tryz.ntmps80 Tryz.ntmps81 Tryz.ntmps82
attribute [go_sem] Tryz.ntmps83 Tryz.ntmps84 Tryz.ntmps85 Tryz.ntmps86 Tryz.ntmps87 Tryz.ntmps88 Tryz.ntmps89 Tryz.ntmps90 Tryz.ntmps91 Tryz.ntmps92 Tryz.ntmps93 Tryz.ntmps94 Tryz.ntmps95 Tryz.ntmps96 Tryz.ntmps97 Tryz.ntmps98 Tryz.ntmps99 Tryz.ntmps100 Tryz.ntmps101 Tryz.ntmps102
attribute [go_sem] Tryz.ntmps103 Tryz.ntmps104 Tryz.ntmps105 Tryz.ntmps106 Tryz.ntmps107 Tryz.ntmps108 Tryz.ntmps109 Tryz.ntmps110 Tryz.ntmps111 Tryz.ntmps112 Tryz.ntmps113 Tryz.ntmps114 Tryz.ntmps115 Tryz.ntmps116 Tryz.ntmps117 Tryz.ntmps121 Tryz.ntmps122 Tryz.ntmps123 Tryz.ntmps124 Tryz.ntmps125
attribute [go_sem] Tryz.ntmps126 Tryz.ntmps127 Tryz.ntmps128 Tryz.ntmps129 Tryz.ntmps130 Tryz.ntmps131 Tryz.ntmps132 Tryz.ntmps133 Tryz.ntmps134 Tryz.ntmps135 Tryz.ntmps136 Tryz.ntmps137 Tryz.ntmps138 Tryz.ntmps139 Tryz.ntmps140 Tryz.ntmps141 Tryz.ntmps142 Tryz.ntmps143 Tryz.ntmps144 Tryz.ntmps145
attribute [go_sem] Tryz.ntmps146 Tryz.ntmps147 Tryz.ntmps148 Tryz.ntmps149 Tryz.ntmps150 Tryz.ntmps151 Tryz.ntmps152 Tryz.ntmps153 Tryz.ntmps154 Tryz.ntmps155 Tryz.ntmps156 Tryz.ntmps157 Tryz.ntmps158 Tryz.ntmps159 Tryz.ntmps160 Tryz.ntmps161 Tryz.ntmps162 Tryz.ntmps163 Tryz.ntmps164 Tryz.ntmps165
attribute [go_sem] Tryz.ntmps166 Tryz.ntmps167 Tryz.ntmps168 Tryz.ntmps169 Tryz.ntmps170 Tryz.ntmps174 Tryz.ntmps175 Tryz.ntmps176 Tryz.ntmps177 Tryz.ntmps178 Tryz.ntmps179 Tryz.ntmps180 Tryz.ntmps181 Tryz.ntmps182 Tryz.ntmps183 Tryz.ntmps184 Tryz.ntmps185 Tryz.ntmps186 Tryz.ntmps187 Tryz.ntmps188
attribute [go_sem] Tryz.ntmps190 Tryz.ntmps191 Tryz.ntmps192 Tryz.ntmps193 Tryz.ntmps194 Tryz.ntmps195 Tryz.ntmps196 Tryz.ntmps197 Tryz.ntmps198 Tryz.ntmps199 Tryz.ntmps200 Tryz.ntmps201 Tryz.ntmps202 Tryz.ntmps203 Tryz.ntmps204 Tryz.ntmps205 Tryz.ntmps206 Tryz.ntmps207 Tryz.ntmps208 Tryz.ntmps209
attribute [go_sem] Tryz.ntmps210 Tryz.ntmps211 Tryz.ntmps212 Tryz.ntmps213 Tryz.ntmps214 Tryz.ntmps215 Tryz.ntmps216 Tryz.ntmps217 Tryz.ntmps218 Tryz.ntmps219 Tryz.ntmps220 Tryz.ntmps221 Tryz.ntmps222 Tryz.ntmps223 Tryz.ntmps224 Tryz.ntmps225 Tryz.ntmps226 Tryz.ntmps227 Tryz.ntmps228 Tryz.ntmps229
attribute [go_sem] Tryz.ntmps230 Tryz.ntmps231 Tryz.ntmps232 Tryz.ntmps233 Tryz.ntmps234 Tryz.ntmps235 Tryz.ntmps236 Tryz.ntmps237 Tryz.ntmps238 Tryz.ntmps239 Tryz.ntmps240 Tryz.ntmps241 Tryz.ntmps242 Tryz.ntmps243 Tryz.ntmps244 Tryz.ntmps245 Tryz.ntmps246 Tryz.ntmps247 Tryz.ntmps248 Tryz.ntmps249
attribute [go_sem] Tryz.ntmps250 Tryz.ntmps251 Tryz.ntmps252 Tryz.ntmps272 Tryz.ntmps273
end Go.Proofs.YtlmahffjidgplaaGreatDoor
end

section
namespace Go.Proofs.YtlmahffjidgplaaGreatDoor
open Go Go.Shelf
set_option maxRecDepth 100000
def sortA_ren : Go.Shelf.Ren := ⟨fun | 5 => 191 | 8 => 221 | 7 => 220 | 19 => 242 | 20 => 243 | 10 => 233 | 11 => 234 | 12 => 235 | 13 => 236 | 14 => 237 | 15 => 238 | 16 => 239 | 17 => 240 | 18 => 241 | 30 => 246 | 31 => 247 | 32 => 248 | 33 => 249 | 34 => 250 | 35 => 251 | 40 => 252 | n => n, fun | 23 => 66 | 25 => 3 | 3 => 3 | 32 => 216 | 22 => 66 | 0 => 0 | 44 => 333 | 46 => 122 | 4 => 4 | 36 => 353 | 35 => 352 | 41 => 358 | 5 => 5 | 9 => 9 | 53 => 362 | 57 => 365 | 63 => 367 | 64 => 178 | n => n, fun | n => n⟩
theorem sortA : Go.Proofs.SlLaysM.n5 Tryz.prog sortA_ren where
  mixed := by kernel_rfl
  f5 := ⟨Tryz.f191.name, by decide, Tryz.func191.trans (congrArg some (by kernel_rfl))⟩
  f7 := ⟨Tryz.f220.name, by decide, Tryz.func220.trans (congrArg some (by kernel_rfl))⟩
  f8 := Tryz.func221.trans (congrArg some (by kernel_rfl))
  f10 := ⟨Tryz.f233.name, by decide, Tryz.func233.trans (congrArg some (by kernel_rfl))⟩
  f11 := ⟨Tryz.f234.name, by decide, Tryz.func234.trans (congrArg some (by kernel_rfl))⟩
  f12 := ⟨Tryz.f235.name, by decide, Tryz.func235.trans (congrArg some (by kernel_rfl))⟩
  f13 := ⟨Tryz.f236.name, by decide, Tryz.func236.trans (congrArg some (by kernel_rfl))⟩
  f14 := ⟨Tryz.f237.name, by decide, Tryz.func237.trans (congrArg some (by kernel_rfl))⟩
  f15 := ⟨Tryz.f238.name, by decide, Tryz.func238.trans (congrArg some (by kernel_rfl))⟩
  f16 := ⟨Tryz.f239.name, by decide, Tryz.func239.trans (congrArg some (by kernel_rfl))⟩
  f17 := ⟨Tryz.f240.name, by decide, Tryz.func240.trans (congrArg some (by kernel_rfl))⟩
  f18 := ⟨Tryz.f241.name, by decide, Tryz.func241.trans (congrArg some (by kernel_rfl))⟩
  f19 := Tryz.func242.trans (congrArg some (by kernel_rfl))
  f20 := Tryz.func243.trans (congrArg some (by kernel_rfl))
  f30 := ⟨Tryz.f246.name, by decide, Tryz.func246.trans (congrArg some (by kernel_rfl))⟩
  f31 := Tryz.func247.trans (congrArg some (by kernel_rfl))
  f32 := Tryz.func248.trans (congrArg some (by kernel_rfl))
  f33 := ⟨Tryz.f249.name, by decide, Tryz.func249.trans (congrArg some (by kernel_rfl))⟩
  f34 := ⟨Tryz.f250.name, by decide, Tryz.func250.trans (congrArg some (by kernel_rfl))⟩
  f35 := ⟨Tryz.f251.name, by decide, Tryz.func251.trans (congrArg some (by kernel_rfl))⟩
  f40 := ⟨Tryz.f252.name, by decide, Tryz.func252.trans (congrArg some (by kernel_rfl))⟩
  t0 := Tryz.underlying0
  a0 := Tryz.isAgg0
  z0 := Tryz.sizeOf0
  v0 := Tryz.zeroValue0
  t3 := Tryz.underlying3
  a3 := Tryz.isAgg3
  z3 := Tryz.sizeOf3
  v3 := Tryz.zeroValue3
  t4 := Tryz.underlying4
  a4 := Tryz.isAgg4
  z4 := Tryz.sizeOf4
  v4 := Tryz.zeroValue4
  t5 := Tryz.underlying5
  a5 := Tryz.isAgg5
  z5 := Tryz.sizeOf5
  v5 := Tryz.zeroValue5
  t9 := Tryz.underlying9
  a9 := Tryz.isAgg9
  z9 := Tryz.sizeOf9
  v9 := Tryz.zeroValue9
  t22 := Tryz.underlying66
  a22 := Tryz.isAgg66
  z22 := Tryz.sizeOf66
  v22 := Tryz.zeroValue66
  t23 := Tryz.underlying66
  a23 := Tryz.isAgg66
  z23 := Tryz.sizeOf66
  v23 := Tryz.zeroValue66
  t25 := Tryz.underlying3
  a25 := Tryz.isAgg3
  z25 := Tryz.sizeOf3
  v25 := Tryz.zeroValue3
  t32 := Tryz.underlying216
  a32 := Tryz.isAgg216
  z32 := Tryz.sizeOf216
  v32 := Tryz.zeroValue216
  t35 := Tryz.underlying352
  a35 := Tryz.isAgg352
  z35 := Tryz.sizeOf352
  v35 := Tryz.zeroValue352
  t36 := Tryz.underlying353
  a36 := Tryz.isAgg353
  z36 := Tryz.sizeOf353
  v36 := Tryz.zeroValue353
  t41 := Tryz.underlying358
  a41 := Tryz.isAgg358
  z41 := Tryz.sizeOf358
  v41 := Tryz.zeroValue358
  t44 := Tryz.underlying333
  a44 := Tryz.isAgg333
  z44 := Tryz.sizeOf333
  v44 := Tryz.zeroValue333
  t46 := Tryz.underlying122
  a46 := Tryz.isAgg122
  z46 := Tryz.sizeOf122
  v46 := Tryz.zeroValue122
  t53 := Tryz.underlying362
  a53 := Tryz.isAgg362
  z53 := Tryz.sizeOf362
  v53 := Tryz.zeroValue362
  t57 := Tryz.underlying365
  a57 := Tryz.isAgg365
  z57 := Tryz.sizeOf365
  v57 := Tryz.zeroValue365
  t63 := Tryz.underlying367
  a63 := Tryz.isAgg367
  z63 := Tryz.sizeOf367
  v63 := Tryz.zeroValue367
  t64 := Tryz.underlying178
  a64 := Tryz.isAgg178
  z64 := Tryz.sizeOf178
  v64 := Tryz.zeroValue178
end Go.Proofs.YtlmahffjidgplaaGreatDoor
end
