/- A part of the proof: what the calls do, told by values. -/
import Derived.Test.YtgpmfdmiffbgpaaGreatDoorA2
import Derived.Test.YtgpmfdmiffbgpaaGreatDoorProg
import Derived.KernelRfl
import Derived.Shelf.SlLaysM
section
namespace Go.Proofs.YtgpmfdmiffbgpaaGreatDoor
open Go Go.Av
set_option maxRecDepth 100000
attribute [go_sem] Tryz.underlying3
@[go_sem] theorem tk_3 : tk Tryz.prog 3 = some (1, false) := by kernel_rfl
@[go_sem] theorem tp_3 : tkPlaces Tryz.prog 3 = none := by kernel_rfl
@[go_sem] theorem ta_3 : tkArr Tryz.prog 3 = none := by kernel_rfl
@[go_sem] theorem tb_3 : tkBytes Tryz.prog 3 = some 8 := by kernel_rfl
@[go_sem] theorem tn_3 : notInt Tryz.prog 3 = false := by kernel_rfl
@[go_sem] theorem tz_3 : tkZero Tryz.prog 3 = some [.int .i64 0] := by kernel_rfl
attribute [go_sem] Tryz.underlying4
@[go_sem] theorem tk_4 : tk Tryz.prog 4 = some (1, false) := by kernel_rfl
@[go_sem] theorem tp_4 : tkPlaces Tryz.prog 4 = none := by kernel_rfl
@[go_sem] theorem ta_4 : tkArr Tryz.prog 4 = none := by kernel_rfl
@[go_sem] theorem tb_4 : tkBytes Tryz.prog 4 = some 1 := by kernel_rfl
@[go_sem] theorem tn_4 : notInt Tryz.prog 4 = true := by kernel_rfl
@[go_sem] theorem tz_4 : tkZero Tryz.prog 4 = some [.bool false] := by kernel_rfl
attribute [go_sem] Tryz.underlying5
@[go_sem] theorem tk_5 : tk Tryz.prog 5 = some (1, false) := by kernel_rfl
@[go_sem] theorem tp_5 : tkPlaces Tryz.prog 5 = none := by kernel_rfl
@[go_sem] theorem ta_5 : tkArr Tryz.prog 5 = none := by kernel_rfl
@[go_sem] theorem tb_5 : tkBytes Tryz.prog 5 = some 1 := by kernel_rfl
@[go_sem] theorem tn_5 : notInt Tryz.prog 5 = false := by kernel_rfl
@[go_sem] theorem tz_5 : tkZero Tryz.prog 5 = some [.int .u8 0] := by kernel_rfl
attribute [go_sem] Tryz.underlying9
@[go_sem] theorem tk_9 : tk Tryz.prog 9 = some (1, false) := by kernel_rfl
@[go_sem] theorem tp_9 : tkPlaces Tryz.prog 9 = none := by kernel_rfl
@[go_sem] theorem ta_9 : tkArr Tryz.prog 9 = none := by kernel_rfl
@[go_sem] theorem tb_9 : tkBytes Tryz.prog 9 = some 16 := by kernel_rfl
@[go_sem] theorem tn_9 : notInt Tryz.prog 9 = true := by kernel_rfl
@[go_sem] theorem tz_9 : tkZero Tryz.prog 9 = some [.string ⟨#[]⟩] := by kernel_rfl
attribute [go_sem] Tryz.underlying17
@[go_sem] theorem tk_17 : tk Tryz.prog 17 = some (1, false) := by kernel_rfl
@[go_sem] theorem tp_17 : tkPlaces Tryz.prog 17 = none := by kernel_rfl
@[go_sem] theorem ta_17 : tkArr Tryz.prog 17 = none := by kernel_rfl
@[go_sem] theorem tb_17 : tkBytes Tryz.prog 17 = some 8 := by kernel_rfl
@[go_sem] theorem tn_17 : notInt Tryz.prog 17 = true := by kernel_rfl
@[go_sem] theorem tz_17 : tkZero Tryz.prog 17 = some [.pointer none] := by kernel_rfl
attribute [go_sem] Tryz.underlying20
@[go_sem] theorem tk_20 : tk Tryz.prog 20 = some (1, false) := by kernel_rfl
@[go_sem] theorem tp_20 : tkPlaces Tryz.prog 20 = none := by kernel_rfl
@[go_sem] theorem ta_20 : tkArr Tryz.prog 20 = none := by kernel_rfl
@[go_sem] theorem tb_20 : tkBytes Tryz.prog 20 = some 16 := by kernel_rfl
@[go_sem] theorem tn_20 : notInt Tryz.prog 20 = true := by kernel_rfl
@[go_sem] theorem tz_20 : tkZero Tryz.prog 20 = some [.nilIface] := by kernel_rfl
attribute [go_sem] Tryz.underlying22
@[go_sem] theorem tk_22 : tk Tryz.prog 22 = some (1, false) := by kernel_rfl
@[go_sem] theorem tp_22 : tkPlaces Tryz.prog 22 = none := by kernel_rfl
@[go_sem] theorem ta_22 : tkArr Tryz.prog 22 = none := by kernel_rfl
@[go_sem] theorem te_22 : tkElem Tryz.prog 22 = some (1, false) := by kernel_rfl
@[go_sem] theorem tb_22 : tkBytes Tryz.prog 22 = some 24 := by kernel_rfl
@[go_sem] theorem tn_22 : notInt Tryz.prog 22 = true := by kernel_rfl
@[go_sem] theorem tz_22 : tkZero Tryz.prog 22 = some [.slice none 0 0] := by kernel_rfl
attribute [go_sem] Tryz.underlying24
@[go_sem] theorem tk_24 : tk Tryz.prog 24 = some (1, false) := by kernel_rfl
@[go_sem] theorem tp_24 : tkPlaces Tryz.prog 24 = none := by kernel_rfl
@[go_sem] theorem ta_24 : tkArr Tryz.prog 24 = none := by kernel_rfl
@[go_sem] theorem tb_24 : tkBytes Tryz.prog 24 = some 8 := by kernel_rfl
@[go_sem] theorem tn_24 : notInt Tryz.prog 24 = true := by kernel_rfl
@[go_sem] theorem tz_24 : tkZero Tryz.prog 24 = some [.pointer none] := by kernel_rfl
attribute [go_sem] Tryz.underlying26
@[go_sem] theorem tk_26 : tk Tryz.prog 26 = some (1, false) := by kernel_rfl
@[go_sem] theorem tp_26 : tkPlaces Tryz.prog 26 = none := by kernel_rfl
@[go_sem] theorem ta_26 : tkArr Tryz.prog 26 = none := by kernel_rfl
@[go_sem] theorem tb_26 : tkBytes Tryz.prog 26 = some 16 := by kernel_rfl
@[go_sem] theorem tn_26 : notInt Tryz.prog 26 = true := by kernel_rfl
@[go_sem] theorem tz_26 : tkZero Tryz.prog 26 = some [.nilIface] := by kernel_rfl
attribute [go_sem] Tryz.underlying29
@[go_sem] theorem tk_29 : tk Tryz.prog 29 = some (1, false) := by kernel_rfl
@[go_sem] theorem tp_29 : tkPlaces Tryz.prog 29 = none := by kernel_rfl
@[go_sem] theorem ta_29 : tkArr Tryz.prog 29 = none := by kernel_rfl
@[go_sem] theorem tb_29 : tkBytes Tryz.prog 29 = some 8 := by kernel_rfl
@[go_sem] theorem tn_29 : notInt Tryz.prog 29 = true := by kernel_rfl
@[go_sem] theorem tz_29 : tkZero Tryz.prog 29 = some [.pointer none] := by kernel_rfl
attribute [go_sem] Tryz.underlying34
@[go_sem] theorem tk_34 : tk Tryz.prog 34 = some (1, false) := by kernel_rfl
@[go_sem] theorem tp_34 : tkPlaces Tryz.prog 34 = none := by kernel_rfl
@[go_sem] theorem ta_34 : tkArr Tryz.prog 34 = none := by kernel_rfl
@[go_sem] theorem te_34 : tkElem Tryz.prog 34 = some (1, false) := by kernel_rfl
@[go_sem] theorem tb_34 : tkBytes Tryz.prog 34 = some 24 := by kernel_rfl
@[go_sem] theorem tn_34 : notInt Tryz.prog 34 = true := by kernel_rfl
@[go_sem] theorem tz_34 : tkZero Tryz.prog 34 = some [.slice none 0 0] := by kernel_rfl
attribute [go_sem] Tryz.underlying36
@[go_sem] theorem tk_36 : tk Tryz.prog 36 = some (3, true) := by kernel_rfl
@[go_sem] theorem tf_36_0 : tkField Tryz.prog 36 0 = some (0, 1, false) := by kernel_rfl
@[go_sem] theorem tf_36_1 : tkField Tryz.prog 36 1 = some (1, 1, false) := by kernel_rfl
@[go_sem] theorem tf_36_2 : tkField Tryz.prog 36 2 = some (2, 1, false) := by kernel_rfl
@[go_sem] theorem tp_36 : tkPlaces Tryz.prog 36 = some [(0, 1), (1, 1), (2, 1)] := by kernel_rfl
@[go_sem] theorem ta_36 : tkArr Tryz.prog 36 = none := by kernel_rfl
@[go_sem] theorem tb_36 : tkBytes Tryz.prog 36 = some 40 := by kernel_rfl
@[go_sem] theorem tn_36 : notInt Tryz.prog 36 = true := by kernel_rfl
@[go_sem] theorem tz_36 : tkZero Tryz.prog 36 = some [.int .i64 0, .int .i64 0, .slice none 0 0] := by kernel_rfl
attribute [go_sem] Tryz.underlying39
@[go_sem] theorem tk_39 : tk Tryz.prog 39 = some (1, false) := by kernel_rfl
@[go_sem] theorem tp_39 : tkPlaces Tryz.prog 39 = none := by kernel_rfl
@[go_sem] theorem ta_39 : tkArr Tryz.prog 39 = none := by kernel_rfl
@[go_sem] theorem tb_39 : tkBytes Tryz.prog 39 = some 8 := by kernel_rfl
@[go_sem] theorem tn_39 : notInt Tryz.prog 39 = false := by kernel_rfl
@[go_sem] theorem tz_39 : tkZero Tryz.prog 39 = some [.int .i64 0] := by kernel_rfl
attribute [go_sem] Tryz.underlying42
@[go_sem] theorem tk_42 : tk Tryz.prog 42 = some (1, false) := by kernel_rfl
@[go_sem] theorem tp_42 : tkPlaces Tryz.prog 42 = none := by kernel_rfl
@[go_sem] theorem ta_42 : tkArr Tryz.prog 42 = none := by kernel_rfl
@[go_sem] theorem te_42 : tkElem Tryz.prog 42 = some (5, true) := by kernel_rfl
@[go_sem] theorem tb_42 : tkBytes Tryz.prog 42 = some 24 := by kernel_rfl
@[go_sem] theorem tn_42 : notInt Tryz.prog 42 = true := by kernel_rfl
@[go_sem] theorem tz_42 : tkZero Tryz.prog 42 = some [.slice none 0 0] := by kernel_rfl
attribute [go_sem] Tryz.underlying44
@[go_sem] theorem tk_44 : tk Tryz.prog 44 = some (1, false) := by kernel_rfl
@[go_sem] theorem tp_44 : tkPlaces Tryz.prog 44 = none := by kernel_rfl
@[go_sem] theorem ta_44 : tkArr Tryz.prog 44 = none := by kernel_rfl
@[go_sem] theorem te_44 : tkElem Tryz.prog 44 = some (2, true) := by kernel_rfl
@[go_sem] theorem tb_44 : tkBytes Tryz.prog 44 = some 24 := by kernel_rfl
@[go_sem] theorem tn_44 : notInt Tryz.prog 44 = true := by kernel_rfl
@[go_sem] theorem tz_44 : tkZero Tryz.prog 44 = some [.slice none 0 0] := by kernel_rfl
attribute [go_sem] Tryz.underlying45
@[go_sem] theorem tk_45 : tk Tryz.prog 45 = some (1, false) := by kernel_rfl
@[go_sem] theorem tp_45 : tkPlaces Tryz.prog 45 = none := by kernel_rfl
@[go_sem] theorem ta_45 : tkArr Tryz.prog 45 = none := by kernel_rfl
@[go_sem] theorem te_45 : tkElem Tryz.prog 45 = some (3, true) := by kernel_rfl
@[go_sem] theorem tb_45 : tkBytes Tryz.prog 45 = some 24 := by kernel_rfl
@[go_sem] theorem tn_45 : notInt Tryz.prog 45 = true := by kernel_rfl
@[go_sem] theorem tz_45 : tkZero Tryz.prog 45 = some [.slice none 0 0] := by kernel_rfl
attribute [go_sem] Tryz.underlying47
@[go_sem] theorem tk_47 : tk Tryz.prog 47 = some (6, true) := by kernel_rfl
@[go_sem] theorem tf_47_0 : tkField Tryz.prog 47 0 = some (0, 1, false) := by kernel_rfl
@[go_sem] theorem tf_47_1 : tkField Tryz.prog 47 1 = some (1, 1, false) := by kernel_rfl
@[go_sem] theorem tf_47_2 : tkField Tryz.prog 47 2 = some (2, 1, false) := by kernel_rfl
@[go_sem] theorem tf_47_3 : tkField Tryz.prog 47 3 = some (3, 1, false) := by kernel_rfl
@[go_sem] theorem tf_47_4 : tkField Tryz.prog 47 4 = some (4, 1, false) := by kernel_rfl
@[go_sem] theorem tf_47_5 : tkField Tryz.prog 47 5 = some (5, 1, false) := by kernel_rfl
@[go_sem] theorem tp_47 : tkPlaces Tryz.prog 47 = some [(0, 1), (1, 1), (2, 1), (3, 1), (4, 1), (5, 1)] := by kernel_rfl
@[go_sem] theorem ta_47 : tkArr Tryz.prog 47 = none := by kernel_rfl
@[go_sem] theorem tb_47 : tkBytes Tryz.prog 47 = some 80 := by kernel_rfl
@[go_sem] theorem tn_47 : notInt Tryz.prog 47 = true := by kernel_rfl
@[go_sem] theorem tz_47 : tkZero Tryz.prog 47 = some [.int .i64 0, .slice none 0 0, .slice none 0 0, .int .i64 0, .bool false, .int .i64 0] := by kernel_rfl
attribute [go_sem] Tryz.underlying49
@[go_sem] theorem tk_49 : tk Tryz.prog 49 = some (7, true) := by kernel_rfl
@[go_sem] theorem tf_49_0 : tkField Tryz.prog 49 0 = some (0, 6, true) := by kernel_rfl
@[go_sem] theorem tf_49_1 : tkField Tryz.prog 49 1 = some (6, 1, false) := by kernel_rfl
@[go_sem] theorem tp_49 : tkPlaces Tryz.prog 49 = some [(0, 6), (6, 1)] := by kernel_rfl
@[go_sem] theorem ta_49 : tkArr Tryz.prog 49 = none := by kernel_rfl
@[go_sem] theorem tb_49 : tkBytes Tryz.prog 49 = some 88 := by kernel_rfl
@[go_sem] theorem tn_49 : notInt Tryz.prog 49 = true := by kernel_rfl
@[go_sem] theorem tz_49 : tkZero Tryz.prog 49 = some [.int .i64 0, .slice none 0 0, .slice none 0 0, .int .i64 0, .bool false, .int .i64 0, .int .i64 0] := by kernel_rfl
attribute [go_sem] Tryz.underlying53
@[go_sem] theorem tk_53 : tk Tryz.prog 53 = some (5, true) := by kernel_rfl
@[go_sem] theorem tf_53_0 : tkField Tryz.prog 53 0 = some (0, 1, false) := by kernel_rfl
@[go_sem] theorem tf_53_1 : tkField Tryz.prog 53 1 = some (1, 1, false) := by kernel_rfl
@[go_sem] theorem tf_53_2 : tkField Tryz.prog 53 2 = some (2, 1, false) := by kernel_rfl
@[go_sem] theorem tf_53_3 : tkField Tryz.prog 53 3 = some (3, 1, false) := by kernel_rfl
@[go_sem] theorem tf_53_4 : tkField Tryz.prog 53 4 = some (4, 1, false) := by kernel_rfl
@[go_sem] theorem tp_53 : tkPlaces Tryz.prog 53 = some [(0, 1), (1, 1), (2, 1), (3, 1), (4, 1)] := by kernel_rfl
@[go_sem] theorem ta_53 : tkArr Tryz.prog 53 = none := by kernel_rfl
@[go_sem] theorem tb_53 : tkBytes Tryz.prog 53 = some 72 := by kernel_rfl
@[go_sem] theorem tn_53 : notInt Tryz.prog 53 = true := by kernel_rfl
@[go_sem] theorem tz_53 : tkZero Tryz.prog 53 = some [.int .i64 0, .int .i64 0, .int .i64 0, .slice none 0 0, .slice none 0 0] := by kernel_rfl
attribute [go_sem] Tryz.underlying61
@[go_sem] theorem tk_61 : tk Tryz.prog 61 = some (2, true) := by kernel_rfl
@[go_sem] theorem tf_61_0 : tkField Tryz.prog 61 0 = some (0, 1, false) := by kernel_rfl
@[go_sem] theorem tf_61_1 : tkField Tryz.prog 61 1 = some (1, 1, false) := by kernel_rfl
@[go_sem] theorem tp_61 : tkPlaces Tryz.prog 61 = some [(0, 1), (1, 1)] := by kernel_rfl
@[go_sem] theorem ta_61 : tkArr Tryz.prog 61 = none := by kernel_rfl
@[go_sem] theorem tb_61 : tkBytes Tryz.prog 61 = some 16 := by kernel_rfl
@[go_sem] theorem tn_61 : notInt Tryz.prog 61 = true := by kernel_rfl
@[go_sem] theorem tz_61 : tkZero Tryz.prog 61 = some [.pointer none, .int .i64 0] := by kernel_rfl
attribute [go_sem] Tryz.underlying71
@[go_sem] theorem tk_71 : tk Tryz.prog 71 = some (1, false) := by kernel_rfl
@[go_sem] theorem tp_71 : tkPlaces Tryz.prog 71 = none := by kernel_rfl
@[go_sem] theorem ta_71 : tkArr Tryz.prog 71 = none := by kernel_rfl
@[go_sem] theorem te_71 : tkElem Tryz.prog 71 = some (6, true) := by kernel_rfl
@[go_sem] theorem tb_71 : tkBytes Tryz.prog 71 = some 24 := by kernel_rfl
@[go_sem] theorem tn_71 : notInt Tryz.prog 71 = true := by kernel_rfl
@[go_sem] theorem tz_71 : tkZero Tryz.prog 71 = some [.slice none 0 0] := by kernel_rfl
attribute [go_sem] Tryz.underlying76
@[go_sem] theorem tk_76 : tk Tryz.prog 76 = some (6, true) := by kernel_rfl
@[go_sem] theorem tf_76_0 : tkField Tryz.prog 76 0 = some (0, 1, false) := by kernel_rfl
@[go_sem] theorem tf_76_1 : tkField Tryz.prog 76 1 = some (1, 1, false) := by kernel_rfl
@[go_sem] theorem tf_76_2 : tkField Tryz.prog 76 2 = some (2, 1, false) := by kernel_rfl
@[go_sem] theorem tf_76_3 : tkField Tryz.prog 76 3 = some (3, 1, false) := by kernel_rfl
@[go_sem] theorem tf_76_4 : tkField Tryz.prog 76 4 = some (4, 1, false) := by kernel_rfl
@[go_sem] theorem tf_76_5 : tkField Tryz.prog 76 5 = some (5, 1, false) := by kernel_rfl
@[go_sem] theorem tp_76 : tkPlaces Tryz.prog 76 = some [(0, 1), (1, 1), (2, 1), (3, 1), (4, 1), (5, 1)] := by kernel_rfl
@[go_sem] theorem ta_76 : tkArr Tryz.prog 76 = none := by kernel_rfl
@[go_sem] theorem tb_76 : tkBytes Tryz.prog 76 = some 56 := by kernel_rfl
@[go_sem] theorem tn_76 : notInt Tryz.prog 76 = true := by kernel_rfl
@[go_sem] theorem tz_76 : tkZero Tryz.prog 76 = some [.int .i64 0, .int .i64 0, .int .u8 0, .int .u8 0, .int .i64 0, .slice none 0 0] := by kernel_rfl
attribute [go_sem] Tryz.underlying85
@[go_sem] theorem tk_85 : tk Tryz.prog 85 = some (2, true) := by kernel_rfl
@[go_sem] theorem tf_85_0 : tkField Tryz.prog 85 0 = some (0, 1, false) := by kernel_rfl
@[go_sem] theorem tf_85_1 : tkField Tryz.prog 85 1 = some (1, 1, false) := by kernel_rfl
@[go_sem] theorem tp_85 : tkPlaces Tryz.prog 85 = some [(0, 1), (1, 1)] := by kernel_rfl
@[go_sem] theorem ta_85 : tkArr Tryz.prog 85 = none := by kernel_rfl
@[go_sem] theorem tb_85 : tkBytes Tryz.prog 85 = some 32 := by kernel_rfl
@[go_sem] theorem tn_85 : notInt Tryz.prog 85 = true := by kernel_rfl
@[go_sem] theorem tz_85 : tkZero Tryz.prog 85 = some [.int .i64 0, .slice none 0 0] := by kernel_rfl
attribute [go_sem] Tryz.underlying88
@[go_sem] theorem tk_88 : tk Tryz.prog 88 = some (1, false) := by kernel_rfl
@[go_sem] theorem tp_88 : tkPlaces Tryz.prog 88 = none := by kernel_rfl
@[go_sem] theorem ta_88 : tkArr Tryz.prog 88 = none := by kernel_rfl
@[go_sem] theorem tb_88 : tkBytes Tryz.prog 88 = some 8 := by kernel_rfl
@[go_sem] theorem tn_88 : notInt Tryz.prog 88 = true := by kernel_rfl
@[go_sem] theorem tz_88 : tkZero Tryz.prog 88 = some [.map none] := by kernel_rfl
attribute [go_sem] Tryz.underlying89
@[go_sem] theorem tk_89 : tk Tryz.prog 89 = some (1, false) := by kernel_rfl
@[go_sem] theorem tp_89 : tkPlaces Tryz.prog 89 = none := by kernel_rfl
@[go_sem] theorem ta_89 : tkArr Tryz.prog 89 = none := by kernel_rfl
@[go_sem] theorem te_89 : tkElem Tryz.prog 89 = some (2, true) := by kernel_rfl
@[go_sem] theorem tb_89 : tkBytes Tryz.prog 89 = some 24 := by kernel_rfl
@[go_sem] theorem tn_89 : notInt Tryz.prog 89 = true := by kernel_rfl
@[go_sem] theorem tz_89 : tkZero Tryz.prog 89 = some [.slice none 0 0] := by kernel_rfl
attribute [go_sem] Tryz.underlying91
@[go_sem] theorem tk_91 : tk Tryz.prog 91 = some (6, true) := by kernel_rfl
@[go_sem] theorem tf_91_0 : tkField Tryz.prog 91 0 = some (0, 1, false) := by kernel_rfl
@[go_sem] theorem tf_91_1 : tkField Tryz.prog 91 1 = some (1, 1, false) := by kernel_rfl
@[go_sem] theorem tf_91_2 : tkField Tryz.prog 91 2 = some (2, 1, false) := by kernel_rfl
@[go_sem] theorem tf_91_3 : tkField Tryz.prog 91 3 = some (3, 1, false) := by kernel_rfl
@[go_sem] theorem tf_91_4 : tkField Tryz.prog 91 4 = some (4, 1, false) := by kernel_rfl
@[go_sem] theorem tf_91_5 : tkField Tryz.prog 91 5 = some (5, 1, false) := by kernel_rfl
@[go_sem] theorem tp_91 : tkPlaces Tryz.prog 91 = some [(0, 1), (1, 1), (2, 1), (3, 1), (4, 1), (5, 1)] := by kernel_rfl
@[go_sem] theorem ta_91 : tkArr Tryz.prog 91 = none := by kernel_rfl
@[go_sem] theorem tb_91 : tkBytes Tryz.prog 91 = some 64 := by kernel_rfl
@[go_sem] theorem tn_91 : notInt Tryz.prog 91 = true := by kernel_rfl
@[go_sem] theorem tz_91 : tkZero Tryz.prog 91 = some [.int .i64 0, .map none, .slice none 0 0, .int .i64 0, .bool false, .int .i64 0] := by kernel_rfl
attribute [go_sem] Tryz.underlying94
@[go_sem] theorem tk_94 : tk Tryz.prog 94 = some (2, true) := by kernel_rfl
@[go_sem] theorem tf_94_0 : tkField Tryz.prog 94 0 = some (0, 1, false) := by kernel_rfl
@[go_sem] theorem tf_94_1 : tkField Tryz.prog 94 1 = some (1, 1, false) := by kernel_rfl
@[go_sem] theorem tp_94 : tkPlaces Tryz.prog 94 = some [(0, 1), (1, 1)] := by kernel_rfl
@[go_sem] theorem ta_94 : tkArr Tryz.prog 94 = none := by kernel_rfl
@[go_sem] theorem tb_94 : tkBytes Tryz.prog 94 = some 32 := by kernel_rfl
@[go_sem] theorem tn_94 : notInt Tryz.prog 94 = true := by kernel_rfl
@[go_sem] theorem tz_94 : tkZero Tryz.prog 94 = some [.int .i64 0, .slice none 0 0] := by kernel_rfl
attribute [go_sem] Tryz.underlying98
@[go_sem] theorem tk_98 : tk Tryz.prog 98 = some (1, false) := by kernel_rfl
@[go_sem] theorem tp_98 : tkPlaces Tryz.prog 98 = none := by kernel_rfl
@[go_sem] theorem ta_98 : tkArr Tryz.prog 98 = none := by kernel_rfl
@[go_sem] theorem tb_98 : tkBytes Tryz.prog 98 = some 8 := by kernel_rfl
@[go_sem] theorem tn_98 : notInt Tryz.prog 98 = true := by kernel_rfl
@[go_sem] theorem tz_98 : tkZero Tryz.prog 98 = some [.pointer none] := by kernel_rfl
attribute [go_sem] Tryz.underlying100
@[go_sem] theorem tk_100 : tk Tryz.prog 100 = some (1, false) := by kernel_rfl
@[go_sem] theorem tp_100 : tkPlaces Tryz.prog 100 = none := by kernel_rfl
@[go_sem] theorem ta_100 : tkArr Tryz.prog 100 = none := by kernel_rfl
@[go_sem] theorem tb_100 : tkBytes Tryz.prog 100 = some 8 := by kernel_rfl
@[go_sem] theorem tn_100 : notInt Tryz.prog 100 = true := by kernel_rfl
@[go_sem] theorem tz_100 : tkZero Tryz.prog 100 = some [.pointer none] := by kernel_rfl
attribute [go_sem] Tryz.underlying102
@[go_sem] theorem tk_102 : tk Tryz.prog 102 = some (4, true) := by kernel_rfl
@[go_sem] theorem tf_102_0 : tkField Tryz.prog 102 0 = some (0, 1, false) := by kernel_rfl
@[go_sem] theorem tf_102_1 : tkField Tryz.prog 102 1 = some (1, 1, false) := by kernel_rfl
@[go_sem] theorem tf_102_2 : tkField Tryz.prog 102 2 = some (2, 1, false) := by kernel_rfl
@[go_sem] theorem tf_102_3 : tkField Tryz.prog 102 3 = some (3, 1, false) := by kernel_rfl
@[go_sem] theorem tp_102 : tkPlaces Tryz.prog 102 = some [(0, 1), (1, 1), (2, 1), (3, 1)] := by kernel_rfl
@[go_sem] theorem ta_102 : tkArr Tryz.prog 102 = none := by kernel_rfl
@[go_sem] theorem tb_102 : tkBytes Tryz.prog 102 = some 48 := by kernel_rfl
@[go_sem] theorem tn_102 : notInt Tryz.prog 102 = true := by kernel_rfl
@[go_sem] theorem tz_102 : tkZero Tryz.prog 102 = some [.string ⟨#[]⟩, .int .i64 0, .int .i64 0, .nilIface] := by kernel_rfl
attribute [go_sem] Tryz.underlying112
@[go_sem] theorem tk_112 : tk Tryz.prog 112 = some (3, true) := by kernel_rfl
@[go_sem] theorem tf_112_0 : tkField Tryz.prog 112 0 = some (0, 1, false) := by kernel_rfl
@[go_sem] theorem tf_112_1 : tkField Tryz.prog 112 1 = some (1, 1, false) := by kernel_rfl
@[go_sem] theorem tf_112_2 : tkField Tryz.prog 112 2 = some (2, 1, false) := by kernel_rfl
@[go_sem] theorem tp_112 : tkPlaces Tryz.prog 112 = some [(0, 1), (1, 1), (2, 1)] := by kernel_rfl
@[go_sem] theorem ta_112 : tkArr Tryz.prog 112 = none := by kernel_rfl
@[go_sem] theorem tb_112 : tkBytes Tryz.prog 112 = some 40 := by kernel_rfl
@[go_sem] theorem tn_112 : notInt Tryz.prog 112 = true := by kernel_rfl
@[go_sem] theorem tz_112 : tkZero Tryz.prog 112 = some [.int .i64 0, .slice none 0 0, .bool false] := by kernel_rfl
attribute [go_sem] Tryz.underlying119
@[go_sem] theorem tk_119 : tk Tryz.prog 119 = some (1, false) := by kernel_rfl
@[go_sem] theorem tp_119 : tkPlaces Tryz.prog 119 = none := by kernel_rfl
@[go_sem] theorem ta_119 : tkArr Tryz.prog 119 = none := by kernel_rfl
@[go_sem] theorem tb_119 : tkBytes Tryz.prog 119 = some 8 := by kernel_rfl
@[go_sem] theorem tn_119 : notInt Tryz.prog 119 = true := by kernel_rfl
@[go_sem] theorem tz_119 : tkZero Tryz.prog 119 = some [.nilFunc] := by kernel_rfl
attribute [go_sem] Tryz.underlying127
@[go_sem] theorem tk_127 : tk Tryz.prog 127 = some (1, false) := by kernel_rfl
@[go_sem] theorem tp_127 : tkPlaces Tryz.prog 127 = none := by kernel_rfl
@[go_sem] theorem ta_127 : tkArr Tryz.prog 127 = none := by kernel_rfl
@[go_sem] theorem tb_127 : tkBytes Tryz.prog 127 = some 8 := by kernel_rfl
@[go_sem] theorem tn_127 : notInt Tryz.prog 127 = false := by kernel_rfl
@[go_sem] theorem tz_127 : tkZero Tryz.prog 127 = some [.int .u64 0] := by kernel_rfl
attribute [go_sem] Tryz.underlying128
@[go_sem] theorem tk_128 : tk Tryz.prog 128 = some (1, false) := by kernel_rfl
@[go_sem] theorem tp_128 : tkPlaces Tryz.prog 128 = none := by kernel_rfl
@[go_sem] theorem ta_128 : tkArr Tryz.prog 128 = none := by kernel_rfl
@[go_sem] theorem tb_128 : tkBytes Tryz.prog 128 = some 8 := by kernel_rfl
@[go_sem] theorem tn_128 : notInt Tryz.prog 128 = false := by kernel_rfl
@[go_sem] theorem tz_128 : tkZero Tryz.prog 128 = some [.int .u64 0] := by kernel_rfl
attribute [go_sem] Tryz.underlying132
@[go_sem] theorem tk_132 : tk Tryz.prog 132 = some (1, false) := by kernel_rfl
@[go_sem] theorem tp_132 : tkPlaces Tryz.prog 132 = none := by kernel_rfl
@[go_sem] theorem ta_132 : tkArr Tryz.prog 132 = none := by kernel_rfl
@[go_sem] theorem tb_132 : tkBytes Tryz.prog 132 = some 8 := by kernel_rfl
@[go_sem] theorem tn_132 : notInt Tryz.prog 132 = true := by kernel_rfl
@[go_sem] theorem tz_132 : tkZero Tryz.prog 132 = some [.pointer none] := by kernel_rfl
attribute [go_sem] Tryz.underlying133
@[go_sem] theorem tk_133 : tk Tryz.prog 133 = some (1, false) := by kernel_rfl
@[go_sem] theorem tp_133 : tkPlaces Tryz.prog 133 = none := by kernel_rfl
@[go_sem] theorem ta_133 : tkArr Tryz.prog 133 = none := by kernel_rfl
@[go_sem] theorem tb_133 : tkBytes Tryz.prog 133 = some 8 := by kernel_rfl
@[go_sem] theorem tn_133 : notInt Tryz.prog 133 = false := by kernel_rfl
@[go_sem] theorem tz_133 : tkZero Tryz.prog 133 = some [.int .u64 0] := by kernel_rfl
attribute [go_sem] Tryz.underlying135
@[go_sem] theorem tk_135 : tk Tryz.prog 135 = some (3, true) := by kernel_rfl
@[go_sem] theorem tf_135_0 : tkField Tryz.prog 135 0 = some (0, 1, false) := by kernel_rfl
@[go_sem] theorem tf_135_1 : tkField Tryz.prog 135 1 = some (1, 1, false) := by kernel_rfl
@[go_sem] theorem tf_135_2 : tkField Tryz.prog 135 2 = some (2, 1, false) := by kernel_rfl
@[go_sem] theorem tp_135 : tkPlaces Tryz.prog 135 = some [(0, 1), (1, 1), (2, 1)] := by kernel_rfl
@[go_sem] theorem ta_135 : tkArr Tryz.prog 135 = none := by kernel_rfl
@[go_sem] theorem tb_135 : tkBytes Tryz.prog 135 = some 24 := by kernel_rfl
@[go_sem] theorem tn_135 : notInt Tryz.prog 135 = true := by kernel_rfl
@[go_sem] theorem tz_135 : tkZero Tryz.prog 135 = some [.pointer none, .pointer none, .int .u64 0] := by kernel_rfl
attribute [go_sem] Tryz.underlying138
@[go_sem] theorem tk_138 : tk Tryz.prog 138 = some (1, false) := by kernel_rfl
@[go_sem] theorem tp_138 : tkPlaces Tryz.prog 138 = none := by kernel_rfl
@[go_sem] theorem ta_138 : tkArr Tryz.prog 138 = none := by kernel_rfl
@[go_sem] theorem tb_138 : tkBytes Tryz.prog 138 = some 16 := by kernel_rfl
@[go_sem] theorem tn_138 : notInt Tryz.prog 138 = true := by kernel_rfl
@[go_sem] theorem tz_138 : tkZero Tryz.prog 138 = some [.nilIface] := by kernel_rfl
attribute [go_sem] Tryz.underlying140
@[go_sem] theorem tk_140 : tk Tryz.prog 140 = some (1, false) := by kernel_rfl
@[go_sem] theorem tp_140 : tkPlaces Tryz.prog 140 = none := by kernel_rfl
@[go_sem] theorem ta_140 : tkArr Tryz.prog 140 = none := by kernel_rfl
@[go_sem] theorem tb_140 : tkBytes Tryz.prog 140 = some 1 := by kernel_rfl
@[go_sem] theorem tn_140 : notInt Tryz.prog 140 = false := by kernel_rfl
@[go_sem] theorem tz_140 : tkZero Tryz.prog 140 = some [.int .u8 0] := by kernel_rfl
attribute [go_sem] Tryz.underlying156
@[go_sem] theorem tk_156 : tk Tryz.prog 156 = some (1, false) := by kernel_rfl
@[go_sem] theorem tp_156 : tkPlaces Tryz.prog 156 = none := by kernel_rfl
@[go_sem] theorem ta_156 : tkArr Tryz.prog 156 = none := by kernel_rfl
@[go_sem] theorem tb_156 : tkBytes Tryz.prog 156 = some 8 := by kernel_rfl
@[go_sem] theorem tn_156 : notInt Tryz.prog 156 = true := by kernel_rfl
@[go_sem] theorem tz_156 : tkZero Tryz.prog 156 = some [.nilFunc] := by kernel_rfl
attribute [go_sem] Tryz.underlying157
@[go_sem] theorem tk_157 : tk Tryz.prog 157 = some (4, true) := by kernel_rfl
@[go_sem] theorem tp_157 : tkPlaces Tryz.prog 157 = none := by kernel_rfl
@[go_sem] theorem ta_157 : tkArr Tryz.prog 157 = some 4 := by kernel_rfl
@[go_sem] theorem te_157 : tkElem Tryz.prog 157 = some (1, false) := by kernel_rfl
@[go_sem] theorem tb_157 : tkBytes Tryz.prog 157 = some 4 := by kernel_rfl
@[go_sem] theorem tn_157 : notInt Tryz.prog 157 = true := by kernel_rfl
@[go_sem] theorem tz_157 : tkZero Tryz.prog 157 = some [.int .u8 0, .int .u8 0, .int .u8 0, .int .u8 0] := by kernel_rfl
attribute [go_sem] Tryz.underlying159
@[go_sem] theorem tk_159 : tk Tryz.prog 159 = some (1, false) := by kernel_rfl
@[go_sem] theorem tp_159 : tkPlaces Tryz.prog 159 = none := by kernel_rfl
@[go_sem] theorem ta_159 : tkArr Tryz.prog 159 = none := by kernel_rfl
@[go_sem] theorem tb_159 : tkBytes Tryz.prog 159 = some 4 := by kernel_rfl
@[go_sem] theorem tn_159 : notInt Tryz.prog 159 = false := by kernel_rfl
@[go_sem] theorem tz_159 : tkZero Tryz.prog 159 = some [.int .u32 0] := by kernel_rfl
attribute [go_sem] Tryz.underlying161
@[go_sem] theorem tk_161 : tk Tryz.prog 161 = some (1, false) := by kernel_rfl
@[go_sem] theorem tp_161 : tkPlaces Tryz.prog 161 = none := by kernel_rfl
@[go_sem] theorem ta_161 : tkArr Tryz.prog 161 = none := by kernel_rfl
@[go_sem] theorem tb_161 : tkBytes Tryz.prog 161 = some 8 := by kernel_rfl
@[go_sem] theorem tn_161 : notInt Tryz.prog 161 = true := by kernel_rfl
@[go_sem] theorem tz_161 : tkZero Tryz.prog 161 = some [.pointer none] := by kernel_rfl
attribute [go_sem] Tryz.underlying170
@[go_sem] theorem tk_170 : tk Tryz.prog 170 = some (1, false) := by kernel_rfl
@[go_sem] theorem tp_170 : tkPlaces Tryz.prog 170 = none := by kernel_rfl
@[go_sem] theorem ta_170 : tkArr Tryz.prog 170 = none := by kernel_rfl
@[go_sem] theorem tb_170 : tkBytes Tryz.prog 170 = some 16 := by kernel_rfl
@[go_sem] theorem tn_170 : notInt Tryz.prog 170 = true := by kernel_rfl
@[go_sem] theorem tz_170 : tkZero Tryz.prog 170 = some [.nilIface] := by kernel_rfl
attribute [go_sem] Tryz.underlying173
@[go_sem] theorem tk_173 : tk Tryz.prog 173 = some (1, false) := by kernel_rfl
@[go_sem] theorem tp_173 : tkPlaces Tryz.prog 173 = none := by kernel_rfl
@[go_sem] theorem ta_173 : tkArr Tryz.prog 173 = none := by kernel_rfl
@[go_sem] theorem tb_173 : tkBytes Tryz.prog 173 = some 16 := by kernel_rfl
@[go_sem] theorem tn_173 : notInt Tryz.prog 173 = true := by kernel_rfl
@[go_sem] theorem tz_173 : tkZero Tryz.prog 173 = some [.nilIface] := by kernel_rfl
attribute [go_sem] Tryz.underlying174
@[go_sem] theorem tk_174 : tk Tryz.prog 174 = some (1, false) := by kernel_rfl
@[go_sem] theorem tp_174 : tkPlaces Tryz.prog 174 = none := by kernel_rfl
@[go_sem] theorem ta_174 : tkArr Tryz.prog 174 = none := by kernel_rfl
@[go_sem] theorem tb_174 : tkBytes Tryz.prog 174 = some 16 := by kernel_rfl
@[go_sem] theorem tn_174 : notInt Tryz.prog 174 = true := by kernel_rfl
@[go_sem] theorem tz_174 : tkZero Tryz.prog 174 = some [.nilIface] := by kernel_rfl
attribute [go_sem] Tryz.underlying175
@[go_sem] theorem tk_175 : tk Tryz.prog 175 = some (1, false) := by kernel_rfl
@[go_sem] theorem tp_175 : tkPlaces Tryz.prog 175 = none := by kernel_rfl
@[go_sem] theorem ta_175 : tkArr Tryz.prog 175 = none := by kernel_rfl
@[go_sem] theorem te_175 : tkElem Tryz.prog 175 = some (1, false) := by kernel_rfl
@[go_sem] theorem tb_175 : tkBytes Tryz.prog 175 = some 24 := by kernel_rfl
@[go_sem] theorem tn_175 : notInt Tryz.prog 175 = true := by kernel_rfl
@[go_sem] theorem tz_175 : tkZero Tryz.prog 175 = some [.slice none 0 0] := by kernel_rfl
attribute [go_sem] Tryz.underlying178
@[go_sem] theorem tk_178 : tk Tryz.prog 178 = some (3, true) := by kernel_rfl
@[go_sem] theorem tf_178_0 : tkField Tryz.prog 178 0 = some (0, 1, false) := by kernel_rfl
@[go_sem] theorem tf_178_1 : tkField Tryz.prog 178 1 = some (1, 1, false) := by kernel_rfl
@[go_sem] theorem tf_178_2 : tkField Tryz.prog 178 2 = some (2, 1, false) := by kernel_rfl
@[go_sem] theorem tp_178 : tkPlaces Tryz.prog 178 = some [(0, 1), (1, 1), (2, 1)] := by kernel_rfl
@[go_sem] theorem ta_178 : tkArr Tryz.prog 178 = none := by kernel_rfl
@[go_sem] theorem tb_178 : tkBytes Tryz.prog 178 = some 40 := by kernel_rfl
@[go_sem] theorem tn_178 : notInt Tryz.prog 178 = true := by kernel_rfl
@[go_sem] theorem tz_178 : tkZero Tryz.prog 178 = some [.slice none 0 0, .int .i64 0, .int .i64 0] := by kernel_rfl
attribute [go_sem] Tryz.underlying188
@[go_sem] theorem tk_188 : tk Tryz.prog 188 = some (3, true) := by kernel_rfl
@[go_sem] theorem tf_188_0 : tkField Tryz.prog 188 0 = some (0, 1, false) := by kernel_rfl
@[go_sem] theorem tf_188_1 : tkField Tryz.prog 188 1 = some (1, 1, false) := by kernel_rfl
@[go_sem] theorem tf_188_2 : tkField Tryz.prog 188 2 = some (2, 1, false) := by kernel_rfl
@[go_sem] theorem tp_188 : tkPlaces Tryz.prog 188 = some [(0, 1), (1, 1), (2, 1)] := by kernel_rfl
@[go_sem] theorem ta_188 : tkArr Tryz.prog 188 = none := by kernel_rfl
@[go_sem] theorem tb_188 : tkBytes Tryz.prog 188 = some 40 := by kernel_rfl
@[go_sem] theorem tn_188 : notInt Tryz.prog 188 = true := by kernel_rfl
@[go_sem] theorem tz_188 : tkZero Tryz.prog 188 = some [.slice none 0 0, .int .i64 0, .int .i64 0] := by kernel_rfl
attribute [go_sem] Tryz.underlying192
@[go_sem] theorem tk_192 : tk Tryz.prog 192 = some (1, false) := by kernel_rfl
@[go_sem] theorem tp_192 : tkPlaces Tryz.prog 192 = none := by kernel_rfl
@[go_sem] theorem ta_192 : tkArr Tryz.prog 192 = none := by kernel_rfl
@[go_sem] theorem tb_192 : tkBytes Tryz.prog 192 = some 8 := by kernel_rfl
@[go_sem] theorem tn_192 : notInt Tryz.prog 192 = false := by kernel_rfl
@[go_sem] theorem tz_192 : tkZero Tryz.prog 192 = some [.int .i64 0] := by kernel_rfl
attribute [go_sem] Tryz.underlying202
@[go_sem] theorem tk_202 : tk Tryz.prog 202 = some (1, false) := by kernel_rfl
@[go_sem] theorem tp_202 : tkPlaces Tryz.prog 202 = none := by kernel_rfl
@[go_sem] theorem ta_202 : tkArr Tryz.prog 202 = none := by kernel_rfl
@[go_sem] theorem tb_202 : tkBytes Tryz.prog 202 = some 8 := by kernel_rfl
@[go_sem] theorem tn_202 : notInt Tryz.prog 202 = false := by kernel_rfl
@[go_sem] theorem tz_202 : tkZero Tryz.prog 202 = some [.int .u64 0] := by kernel_rfl
attribute [go_sem] Tryz.underlying205
@[go_sem] theorem tk_205 : tk Tryz.prog 205 = some (1, false) := by kernel_rfl
@[go_sem] theorem tp_205 : tkPlaces Tryz.prog 205 = none := by kernel_rfl
@[go_sem] theorem ta_205 : tkArr Tryz.prog 205 = none := by kernel_rfl
@[go_sem] theorem tb_205 : tkBytes Tryz.prog 205 = some 8 := by kernel_rfl
@[go_sem] theorem tn_205 : notInt Tryz.prog 205 = true := by kernel_rfl
@[go_sem] theorem tz_205 : tkZero Tryz.prog 205 = some [.pointer none] := by kernel_rfl
attribute [go_sem] Tryz.underlying236
@[go_sem] theorem tk_236 : tk Tryz.prog 236 = some (1, false) := by kernel_rfl
@[go_sem] theorem tp_236 : tkPlaces Tryz.prog 236 = none := by kernel_rfl
@[go_sem] theorem ta_236 : tkArr Tryz.prog 236 = none := by kernel_rfl
@[go_sem] theorem tb_236 : tkBytes Tryz.prog 236 = some 8 := by kernel_rfl
@[go_sem] theorem tn_236 : notInt Tryz.prog 236 = true := by kernel_rfl
@[go_sem] theorem tz_236 : tkZero Tryz.prog 236 = some [.pointer none] := by kernel_rfl
end Go.Proofs.YtgpmfdmiffbgpaaGreatDoor
end

section
namespace Go.Proofs.YtgpmfdmiffbgpaaGreatDoor
open Go Go.Av
theorem cl_3 : callable Tryz.prog 3 = true := by kernel_rfl
theorem cl_4 : callable Tryz.prog 4 = true := by kernel_rfl
theorem cl_5 : callable Tryz.prog 5 = true := by kernel_rfl
theorem cl_6 : callable Tryz.prog 6 = true := by kernel_rfl
theorem cl_7 : callable Tryz.prog 7 = true := by kernel_rfl
theorem cl_8 : callable Tryz.prog 8 = true := by kernel_rfl
theorem cl_9 : callable Tryz.prog 9 = true := by kernel_rfl
theorem cl_10 : callable Tryz.prog 10 = true := by kernel_rfl
theorem cl_11 : callable Tryz.prog 11 = true := by kernel_rfl
theorem cl_12 : callable Tryz.prog 12 = true := by kernel_rfl
theorem cl_13 : callable Tryz.prog 13 = true := by kernel_rfl
theorem cl_14 : callable Tryz.prog 14 = true := by kernel_rfl
theorem cl_15 : callable Tryz.prog 15 = true := by kernel_rfl
theorem cl_16 : callable Tryz.prog 16 = true := by kernel_rfl
theorem cl_17 : callable Tryz.prog 17 = true := by kernel_rfl
theorem cl_18 : callable Tryz.prog 18 = true := by kernel_rfl
theorem cl_19 : callable Tryz.prog 19 = true := by kernel_rfl
theorem cl_20 : callable Tryz.prog 20 = true := by kernel_rfl
theorem cl_21 : callable Tryz.prog 21 = true := by kernel_rfl
theorem cl_22 : callable Tryz.prog 22 = true := by kernel_rfl
theorem cl_23 : callable Tryz.prog 23 = true := by kernel_rfl
theorem cl_24 : callable Tryz.prog 24 = true := by kernel_rfl
theorem cl_25 : callable Tryz.prog 25 = true := by kernel_rfl
theorem cl_26 : callable Tryz.prog 26 = true := by kernel_rfl
theorem cl_27 : callable Tryz.prog 27 = true := by kernel_rfl
theorem cl_28 : callable Tryz.prog 28 = true := by kernel_rfl
theorem cl_29 : callable Tryz.prog 29 = true := by kernel_rfl
theorem cl_30 : callable Tryz.prog 30 = true := by kernel_rfl
theorem cl_31 : callable Tryz.prog 31 = true := by kernel_rfl
theorem cl_32 : callable Tryz.prog 32 = true := by kernel_rfl
theorem cl_33 : callable Tryz.prog 33 = true := by kernel_rfl
theorem cl_34 : callable Tryz.prog 34 = true := by kernel_rfl
theorem cl_35 : callable Tryz.prog 35 = true := by kernel_rfl
theorem cl_36 : callable Tryz.prog 36 = true := by kernel_rfl
theorem cl_37 : callable Tryz.prog 37 = true := by kernel_rfl
theorem cl_38 : callable Tryz.prog 38 = true := by kernel_rfl
theorem cl_39 : callable Tryz.prog 39 = true := by kernel_rfl
theorem cl_40 : callable Tryz.prog 40 = true := by kernel_rfl
theorem cl_41 : callable Tryz.prog 41 = true := by kernel_rfl
theorem cl_42 : callable Tryz.prog 42 = true := by kernel_rfl
theorem cl_43 : callable Tryz.prog 43 = true := by kernel_rfl
theorem cl_44 : callable Tryz.prog 44 = true := by kernel_rfl
theorem cl_45 : callable Tryz.prog 45 = true := by kernel_rfl
theorem cl_46 : callable Tryz.prog 46 = true := by kernel_rfl
theorem cl_47 : callable Tryz.prog 47 = true := by kernel_rfl
theorem cl_48 : callable Tryz.prog 48 = true := by kernel_rfl
theorem cl_49 : callable Tryz.prog 49 = true := by kernel_rfl
theorem cl_50 : callable Tryz.prog 50 = true := by kernel_rfl
theorem cl_51 : callable Tryz.prog 51 = true := by kernel_rfl
theorem cl_52 : callable Tryz.prog 52 = true := by kernel_rfl
theorem cl_53 : callable Tryz.prog 53 = true := by kernel_rfl
theorem cl_54 : callable Tryz.prog 54 = true := by kernel_rfl
theorem cl_55 : callable Tryz.prog 55 = true := by kernel_rfl
theorem cl_56 : callable Tryz.prog 56 = true := by kernel_rfl
theorem cl_57 : callable Tryz.prog 57 = true := by kernel_rfl
theorem cl_58 : callable Tryz.prog 58 = true := by kernel_rfl
theorem cl_59 : callable Tryz.prog 59 = true := by kernel_rfl
theorem cl_60 : callable Tryz.prog 60 = true := by kernel_rfl
theorem cl_61 : callable Tryz.prog 61 = true := by kernel_rfl
theorem cl_62 : callable Tryz.prog 62 = true := by kernel_rfl
theorem cl_63 : callable Tryz.prog 63 = true := by kernel_rfl
theorem cl_64 : callable Tryz.prog 64 = true := by kernel_rfl
theorem cl_65 : callable Tryz.prog 65 = true := by kernel_rfl
theorem cl_66 : callable Tryz.prog 66 = true := by kernel_rfl
theorem cl_67 : callable Tryz.prog 67 = true := by kernel_rfl
theorem cl_68 : callable Tryz.prog 68 = true := by kernel_rfl
theorem cl_69 : callable Tryz.prog 69 = true := by kernel_rfl
theorem cl_70 : callable Tryz.prog 70 = true := by kernel_rfl
theorem cl_71 : callable Tryz.prog 71 = true := by kernel_rfl
theorem cl_75 : callable Tryz.prog 75 = true := by kernel_rfl
theorem cl_76 : callable Tryz.prog 76 = true := by kernel_rfl
theorem cl_77 : callable Tryz.prog 77 = true := by kernel_rfl
theorem cl_78 : callable Tryz.prog 78 = true := by kernel_rfl
theorem cl_79 : callable Tryz.prog 79 = true := by kernel_rfl
theorem cl_80 : callable Tryz.prog 80 = true := by kernel_rfl
theorem cl_81 : callable Tryz.prog 81 = true := by kernel_rfl
theorem cl_82 : callable Tryz.prog 82 = true := by kernel_rfl
theorem cl_83 : callable Tryz.prog 83 = true := by kernel_rfl
theorem cl_84 : callable Tryz.prog 84 = true := by kernel_rfl
theorem cl_86 : callable Tryz.prog 86 = true := by kernel_rfl
theorem cl_87 : callable Tryz.prog 87 = true := by kernel_rfl
theorem cl_88 : callable Tryz.prog 88 = true := by kernel_rfl
theorem cl_89 : callable Tryz.prog 89 = true := by kernel_rfl
theorem cl_90 : callable Tryz.prog 90 = true := by kernel_rfl
theorem cl_91 : callable Tryz.prog 91 = true := by kernel_rfl
theorem cl_92 : callable Tryz.prog 92 = true := by kernel_rfl
theorem cl_93 : callable Tryz.prog 93 = true := by kernel_rfl
theorem cl_94 : callable Tryz.prog 94 = true := by kernel_rfl
theorem cl_95 : callable Tryz.prog 95 = true := by kernel_rfl
theorem cl_99 : callable Tryz.prog 99 = true := by kernel_rfl
theorem cl_100 : callable Tryz.prog 100 = true := by kernel_rfl
theorem cl_101 : callable Tryz.prog 101 = true := by kernel_rfl
theorem cl_102 : callable Tryz.prog 102 = true := by kernel_rfl
theorem cl_103 : callable Tryz.prog 103 = true := by kernel_rfl
theorem cl_104 : callable Tryz.prog 104 = true := by kernel_rfl
theorem cl_105 : callable Tryz.prog 105 = true := by kernel_rfl
theorem cl_106 : callable Tryz.prog 106 = true := by kernel_rfl
theorem cl_107 : callable Tryz.prog 107 = true := by kernel_rfl
theorem cl_108 : callable Tryz.prog 108 = true := by kernel_rfl
theorem cl_109 : callable Tryz.prog 109 = true := by kernel_rfl
theorem cl_110 : callable Tryz.prog 110 = true := by kernel_rfl
theorem cl_111 : callable Tryz.prog 111 = true := by kernel_rfl
theorem cl_112 : callable Tryz.prog 112 = true := by kernel_rfl
theorem cl_113 : callable Tryz.prog 113 = true := by kernel_rfl
theorem cl_114 : callable Tryz.prog 114 = true := by kernel_rfl
theorem cl_115 : callable Tryz.prog 115 = true := by kernel_rfl
theorem cl_116 : callable Tryz.prog 116 = true := by kernel_rfl
theorem cl_117 : callable Tryz.prog 117 = true := by kernel_rfl
theorem cl_118 : callable Tryz.prog 118 = true := by kernel_rfl
theorem cl_119 : callable Tryz.prog 119 = true := by kernel_rfl
theorem cl_120 : callable Tryz.prog 120 = true := by kernel_rfl
theorem cl_121 : callable Tryz.prog 121 = true := by kernel_rfl
theorem cl_122 : callable Tryz.prog 122 = true := by kernel_rfl
theorem cl_123 : callable Tryz.prog 123 = true := by kernel_rfl
theorem cl_124 : callable Tryz.prog 124 = true := by kernel_rfl
theorem cl_125 : callable Tryz.prog 125 = true := by kernel_rfl
theorem cl_126 : callable Tryz.prog 126 = true := by kernel_rfl
theorem cl_127 : callable Tryz.prog 127 = true := by kernel_rfl
theorem cl_128 : callable Tryz.prog 128 = true := by kernel_rfl
theorem cl_148 : callable Tryz.prog 148 = true := by kernel_rfl
theorem cl_168 : callable Tryz.prog 168 = true := by kernel_rfl
end Go.Proofs.YtgpmfdmiffbgpaaGreatDoor
end

section
namespace Go.Proofs.YtgpmfdmiffbgpaaGreatDoor
open Go Go.Shelf
set_option maxRecDepth 100000
def sortA_ren : Go.Shelf.Ren := ⟨fun | 5 => 87 | 8 => 103 | 7 => 102 | 19 => 119 | 20 => 120 | 10 => 110 | 11 => 111 | 12 => 112 | 13 => 113 | 14 => 114 | 15 => 115 | 16 => 116 | 17 => 117 | 18 => 118 | 30 => 122 | 31 => 123 | 32 => 124 | 33 => 125 | 34 => 126 | 35 => 127 | 40 => 128 | n => n, fun | 23 => 34 | 25 => 3 | 3 => 3 | 32 => 128 | 22 => 34 | 0 => 0 | 44 => 159 | 46 => 127 | 4 => 4 | 36 => 193 | 35 => 192 | 41 => 198 | 5 => 5 | 9 => 9 | 53 => 202 | 57 => 205 | 63 => 207 | 64 => 82 | n => n, fun | n => n⟩
theorem sortA : Go.Proofs.SlLaysM.n5 Tryz.prog sortA_ren where
  mixed := by kernel_rfl
  f5 := ⟨Tryz.f87.name, by decide, Tryz.func87.trans (congrArg some (by kernel_rfl))⟩
  f7 := ⟨Tryz.f102.name, by decide, Tryz.func102.trans (congrArg some (by kernel_rfl))⟩
  f8 := Tryz.func103.trans (congrArg some (by kernel_rfl))
  f10 := ⟨Tryz.f110.name, by decide, Tryz.func110.trans (congrArg some (by kernel_rfl))⟩
  f11 := ⟨Tryz.f111.name, by decide, Tryz.func111.trans (congrArg some (by kernel_rfl))⟩
  f12 := ⟨Tryz.f112.name, by decide, Tryz.func112.trans (congrArg some (by kernel_rfl))⟩
  f13 := ⟨Tryz.f113.name, by decide, Tryz.func113.trans (congrArg some (by kernel_rfl))⟩
  f14 := ⟨Tryz.f114.name, by decide, Tryz.func114.trans (congrArg some (by kernel_rfl))⟩
  f15 := ⟨Tryz.f115.name, by decide, Tryz.func115.trans (congrArg some (by kernel_rfl))⟩
  f16 := ⟨Tryz.f116.name, by decide, Tryz.func116.trans (congrArg some (by kernel_rfl))⟩
  f17 := ⟨Tryz.f117.name, by decide, Tryz.func117.trans (congrArg some (by kernel_rfl))⟩
  f18 := ⟨Tryz.f118.name, by decide, Tryz.func118.trans (congrArg some (by kernel_rfl))⟩
  f19 := Tryz.func119.trans (congrArg some (by kernel_rfl))
  f20 := Tryz.func120.trans (congrArg some (by kernel_rfl))
  f30 := ⟨Tryz.f122.name, by decide, Tryz.func122.trans (congrArg some (by kernel_rfl))⟩
  f31 := Tryz.func123.trans (congrArg some (by kernel_rfl))
  f32 := Tryz.func124.trans (congrArg some (by kernel_rfl))
  f33 := ⟨Tryz.f125.name, by decide, Tryz.func125.trans (congrArg some (by kernel_rfl))⟩
  f34 := ⟨Tryz.f126.name, by decide, Tryz.func126.trans (congrArg some (by kernel_rfl))⟩
  f35 := ⟨Tryz.f127.name, by decide, Tryz.func127.trans (congrArg some (by kernel_rfl))⟩
  f40 := ⟨Tryz.f128.name, by decide, Tryz.func128.trans (congrArg some (by kernel_rfl))⟩
  t0 := Tryz.underlying0
  a0 := Tryz.isAgg0
  z0 := Tryz.sizeOf0
  v0 := Tryz.zeroValue0
  t3 := Tryz.underlying3
  a3 := Tryz.isAgg3
  z3 := Tryz.sizeOf3
  v3 := Tryz.zeroValue3
  t4 := Tryz.underlying4
  a4 := Tryz.isAgg4
  z4 := Tryz.sizeOf4
  v4 := Tryz.zeroValue4
  t5 := Tryz.underlying5
  a5 := Tryz.isAgg5
  z5 := Tryz.sizeOf5
  v5 := Tryz.zeroValue5
  t9 := Tryz.underlying9
  a9 := Tryz.isAgg9
  z9 := Tryz.sizeOf9
  v9 := Tryz.zeroValue9
  t22 := Tryz.underlying34
  a22 := Tryz.isAgg34
  z22 := Tryz.sizeOf34
  v22 := Tryz.zeroValue34
  t23 := Tryz.underlying34
  a23 := Tryz.isAgg34
  z23 := Tryz.sizeOf34
  v23 := Tryz.zeroValue34
  t25 := Tryz.underlying3
  a25 := Tryz.isAgg3
  z25 := Tryz.sizeOf3
  v25 := Tryz.zeroValue3
  t32 := Tryz.underlying128
  a32 := Tryz.isAgg128
  z32 := Tryz.sizeOf128
  v32 := Tryz.zeroValue128
  t35 := Tryz.underlying192
  a35 := Tryz.isAgg192
  z35 := Tryz.sizeOf192
  v35 := Tryz.zeroValue192
  t36 := Tryz.underlying193
  a36 := Tryz.isAgg193
  z36 := Tryz.sizeOf193
  v36 := Tryz.zeroValue193
  t41 := Tryz.underlying198
  a41 := Tryz.isAgg198
  z41 := Tryz.sizeOf198
  v41 := Tryz.zeroValue198
  t44 := Tryz.underlying159
  a44 := Tryz.isAgg159
  z44 := Tryz.sizeOf159
  v44 := Tryz.zeroValue159
  t46 := Tryz.underlying127
  a46 := Tryz.isAgg127
  z46 := Tryz.sizeOf127
  v46 := Tryz.zeroValue127
  t53 := Tryz.underlying202
  a53 := Tryz.isAgg202
  z53 := Tryz.sizeOf202
  v53 := Tryz.zeroValue202
  t57 := Tryz.underlying205
  a57 := Tryz.isAgg205
  z57 := Tryz.sizeOf205
  v57 := Tryz.zeroValue205
  t63 := Tryz.underlying207
  a63 := Tryz.isAgg207
  z63 := Tryz.sizeOf207
  v63 := Tryz.zeroValue207
  t64 := Tryz.underlying82
  a64 := Tryz.isAgg82
  z64 := Tryz.sizeOf82
  v64 := Tryz.zeroValue82
end Go.Proofs.YtgpmfdmiffbgpaaGreatDoor
end
