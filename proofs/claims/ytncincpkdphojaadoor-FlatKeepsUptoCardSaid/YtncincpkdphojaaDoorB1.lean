/- A part of the proof: what the calls do, told by values. -/
import Derived.Test.YtncincpkdphojaaDoorA2
import Derived.Test.YtncincpkdphojaaDoorProg
import Derived.KernelRfl
section
namespace Go.Proofs.YtncincpkdphojaaDoor
open Go Go.Av
set_option maxRecDepth 100000
attribute [go_sem] Tryd.underlying3
@[go_sem] theorem tk_3 : tk Tryd.prog 3 = some (1, false) := by kernel_rfl
@[go_sem] theorem tp_3 : tkPlaces Tryd.prog 3 = none := by kernel_rfl
@[go_sem] theorem ta_3 : tkArr Tryd.prog 3 = none := by kernel_rfl
@[go_sem] theorem tb_3 : tkBytes Tryd.prog 3 = some 8 := by kernel_rfl
@[go_sem] theorem tn_3 : notInt Tryd.prog 3 = false := by kernel_rfl
@[go_sem] theorem tz_3 : tkZero Tryd.prog 3 = some [.int .i64 0] := by kernel_rfl
attribute [go_sem] Tryd.underlying4
@[go_sem] theorem tk_4 : tk Tryd.prog 4 = some (1, false) := by kernel_rfl
@[go_sem] theorem tp_4 : tkPlaces Tryd.prog 4 = none := by kernel_rfl
@[go_sem] theorem ta_4 : tkArr Tryd.prog 4 = none := by kernel_rfl
@[go_sem] theorem tb_4 : tkBytes Tryd.prog 4 = some 1 := by kernel_rfl
@[go_sem] theorem tn_4 : notInt Tryd.prog 4 = true := by kernel_rfl
@[go_sem] theorem tz_4 : tkZero Tryd.prog 4 = some [.bool false] := by kernel_rfl
attribute [go_sem] Tryd.underlying5
@[go_sem] theorem tk_5 : tk Tryd.prog 5 = some (1, false) := by kernel_rfl
@[go_sem] theorem tp_5 : tkPlaces Tryd.prog 5 = none := by kernel_rfl
@[go_sem] theorem ta_5 : tkArr Tryd.prog 5 = none := by kernel_rfl
@[go_sem] theorem tb_5 : tkBytes Tryd.prog 5 = some 1 := by kernel_rfl
@[go_sem] theorem tn_5 : notInt Tryd.prog 5 = false := by kernel_rfl
@[go_sem] theorem tz_5 : tkZero Tryd.prog 5 = some [.int .u8 0] := by kernel_rfl
attribute [go_sem] Tryd.underlying9
@[go_sem] theorem tk_9 : tk Tryd.prog 9 = some (1, false) := by kernel_rfl
@[go_sem] theorem tp_9 : tkPlaces Tryd.prog 9 = none := by kernel_rfl
@[go_sem] theorem ta_9 : tkArr Tryd.prog 9 = none := by kernel_rfl
@[go_sem] theorem tb_9 : tkBytes Tryd.prog 9 = some 16 := by kernel_rfl
@[go_sem] theorem tn_9 : notInt Tryd.prog 9 = true := by kernel_rfl
@[go_sem] theorem tz_9 : tkZero Tryd.prog 9 = some [.string ⟨#[]⟩] := by kernel_rfl
attribute [go_sem] Tryd.underlying17
@[go_sem] theorem tk_17 : tk Tryd.prog 17 = some (1, false) := by kernel_rfl
@[go_sem] theorem tp_17 : tkPlaces Tryd.prog 17 = none := by kernel_rfl
@[go_sem] theorem ta_17 : tkArr Tryd.prog 17 = none := by kernel_rfl
@[go_sem] theorem tb_17 : tkBytes Tryd.prog 17 = some 8 := by kernel_rfl
@[go_sem] theorem tn_17 : notInt Tryd.prog 17 = true := by kernel_rfl
@[go_sem] theorem tz_17 : tkZero Tryd.prog 17 = some [.pointer none] := by kernel_rfl
attribute [go_sem] Tryd.underlying20
@[go_sem] theorem tk_20 : tk Tryd.prog 20 = some (1, false) := by kernel_rfl
@[go_sem] theorem tp_20 : tkPlaces Tryd.prog 20 = none := by kernel_rfl
@[go_sem] theorem ta_20 : tkArr Tryd.prog 20 = none := by kernel_rfl
@[go_sem] theorem tb_20 : tkBytes Tryd.prog 20 = some 16 := by kernel_rfl
@[go_sem] theorem tn_20 : notInt Tryd.prog 20 = true := by kernel_rfl
@[go_sem] theorem tz_20 : tkZero Tryd.prog 20 = some [.nilIface] := by kernel_rfl
attribute [go_sem] Tryd.underlying22
@[go_sem] theorem tk_22 : tk Tryd.prog 22 = some (1, false) := by kernel_rfl
@[go_sem] theorem tp_22 : tkPlaces Tryd.prog 22 = none := by kernel_rfl
@[go_sem] theorem ta_22 : tkArr Tryd.prog 22 = none := by kernel_rfl
@[go_sem] theorem te_22 : tkElem Tryd.prog 22 = some (9, true) := by kernel_rfl
@[go_sem] theorem tb_22 : tkBytes Tryd.prog 22 = some 24 := by kernel_rfl
@[go_sem] theorem tn_22 : notInt Tryd.prog 22 = true := by kernel_rfl
@[go_sem] theorem tz_22 : tkZero Tryd.prog 22 = some [.slice none 0 0] := by kernel_rfl
attribute [go_sem] Tryd.underlying25
@[go_sem] theorem tk_25 : tk Tryd.prog 25 = some (1, false) := by kernel_rfl
@[go_sem] theorem tp_25 : tkPlaces Tryd.prog 25 = none := by kernel_rfl
@[go_sem] theorem ta_25 : tkArr Tryd.prog 25 = none := by kernel_rfl
@[go_sem] theorem tb_25 : tkBytes Tryd.prog 25 = some 8 := by kernel_rfl
@[go_sem] theorem tn_25 : notInt Tryd.prog 25 = true := by kernel_rfl
@[go_sem] theorem tz_25 : tkZero Tryd.prog 25 = some [.pointer none] := by kernel_rfl
attribute [go_sem] Tryd.underlying27
@[go_sem] theorem tk_27 : tk Tryd.prog 27 = some (1, false) := by kernel_rfl
@[go_sem] theorem tp_27 : tkPlaces Tryd.prog 27 = none := by kernel_rfl
@[go_sem] theorem ta_27 : tkArr Tryd.prog 27 = none := by kernel_rfl
@[go_sem] theorem te_27 : tkElem Tryd.prog 27 = some (5, true) := by kernel_rfl
@[go_sem] theorem tb_27 : tkBytes Tryd.prog 27 = some 24 := by kernel_rfl
@[go_sem] theorem tn_27 : notInt Tryd.prog 27 = true := by kernel_rfl
@[go_sem] theorem tz_27 : tkZero Tryd.prog 27 = some [.slice none 0 0] := by kernel_rfl
attribute [go_sem] Tryd.underlying28
@[go_sem] theorem tk_28 : tk Tryd.prog 28 = some (1, false) := by kernel_rfl
@[go_sem] theorem tp_28 : tkPlaces Tryd.prog 28 = none := by kernel_rfl
@[go_sem] theorem ta_28 : tkArr Tryd.prog 28 = none := by kernel_rfl
@[go_sem] theorem te_28 : tkElem Tryd.prog 28 = some (2, true) := by kernel_rfl
@[go_sem] theorem tb_28 : tkBytes Tryd.prog 28 = some 24 := by kernel_rfl
@[go_sem] theorem tn_28 : notInt Tryd.prog 28 = true := by kernel_rfl
@[go_sem] theorem tz_28 : tkZero Tryd.prog 28 = some [.slice none 0 0] := by kernel_rfl
attribute [go_sem] Tryd.underlying30
@[go_sem] theorem tk_30 : tk Tryd.prog 30 = some (3, true) := by kernel_rfl
@[go_sem] theorem tf_30_0 : tkField Tryd.prog 30 0 = some (0, 1, false) := by kernel_rfl
@[go_sem] theorem tf_30_1 : tkField Tryd.prog 30 1 = some (1, 1, false) := by kernel_rfl
@[go_sem] theorem tf_30_2 : tkField Tryd.prog 30 2 = some (2, 1, false) := by kernel_rfl
@[go_sem] theorem tp_30 : tkPlaces Tryd.prog 30 = some [(0, 1), (1, 1), (2, 1)] := by kernel_rfl
@[go_sem] theorem ta_30 : tkArr Tryd.prog 30 = none := by kernel_rfl
@[go_sem] theorem tb_30 : tkBytes Tryd.prog 30 = some 56 := by kernel_rfl
@[go_sem] theorem tn_30 : notInt Tryd.prog 30 = true := by kernel_rfl
@[go_sem] theorem tz_30 : tkZero Tryd.prog 30 = some [.slice none 0 0, .slice none 0 0, .int .i64 0] := by kernel_rfl
attribute [go_sem] Tryd.underlying31
@[go_sem] theorem tk_31 : tk Tryd.prog 31 = some (1, false) := by kernel_rfl
@[go_sem] theorem tp_31 : tkPlaces Tryd.prog 31 = none := by kernel_rfl
@[go_sem] theorem ta_31 : tkArr Tryd.prog 31 = none := by kernel_rfl
@[go_sem] theorem te_31 : tkElem Tryd.prog 31 = some (1, false) := by kernel_rfl
@[go_sem] theorem tb_31 : tkBytes Tryd.prog 31 = some 24 := by kernel_rfl
@[go_sem] theorem tn_31 : notInt Tryd.prog 31 = true := by kernel_rfl
@[go_sem] theorem tz_31 : tkZero Tryd.prog 31 = some [.slice none 0 0] := by kernel_rfl
attribute [go_sem] Tryd.underlying33
@[go_sem] theorem tk_33 : tk Tryd.prog 33 = some (5, true) := by kernel_rfl
@[go_sem] theorem tf_33_0 : tkField Tryd.prog 33 0 = some (0, 1, false) := by kernel_rfl
@[go_sem] theorem tf_33_1 : tkField Tryd.prog 33 1 = some (1, 1, false) := by kernel_rfl
@[go_sem] theorem tf_33_2 : tkField Tryd.prog 33 2 = some (2, 1, false) := by kernel_rfl
@[go_sem] theorem tf_33_3 : tkField Tryd.prog 33 3 = some (3, 1, false) := by kernel_rfl
@[go_sem] theorem tf_33_4 : tkField Tryd.prog 33 4 = some (4, 1, false) := by kernel_rfl
@[go_sem] theorem tp_33 : tkPlaces Tryd.prog 33 = some [(0, 1), (1, 1), (2, 1), (3, 1), (4, 1)] := by kernel_rfl
@[go_sem] theorem ta_33 : tkArr Tryd.prog 33 = none := by kernel_rfl
@[go_sem] theorem tb_33 : tkBytes Tryd.prog 33 = some 64 := by kernel_rfl
@[go_sem] theorem tn_33 : notInt Tryd.prog 33 = true := by kernel_rfl
@[go_sem] theorem tz_33 : tkZero Tryd.prog 33 = some [.string ⟨#[]⟩, .int .i64 0, .int .i64 0, .int .i64 0, .slice none 0 0] := by kernel_rfl
attribute [go_sem] Tryd.underlying35
@[go_sem] theorem tk_35 : tk Tryd.prog 35 = some (9, true) := by kernel_rfl
@[go_sem] theorem tf_35_0 : tkField Tryd.prog 35 0 = some (0, 1, false) := by kernel_rfl
@[go_sem] theorem tf_35_1 : tkField Tryd.prog 35 1 = some (1, 5, true) := by kernel_rfl
@[go_sem] theorem tf_35_2 : tkField Tryd.prog 35 2 = some (6, 1, false) := by kernel_rfl
@[go_sem] theorem tf_35_3 : tkField Tryd.prog 35 3 = some (7, 1, false) := by kernel_rfl
@[go_sem] theorem tf_35_4 : tkField Tryd.prog 35 4 = some (8, 1, false) := by kernel_rfl
@[go_sem] theorem tp_35 : tkPlaces Tryd.prog 35 = some [(0, 1), (1, 5), (6, 1), (7, 1), (8, 1)] := by kernel_rfl
@[go_sem] theorem ta_35 : tkArr Tryd.prog 35 = none := by kernel_rfl
@[go_sem] theorem tb_35 : tkBytes Tryd.prog 35 = some 112 := by kernel_rfl
@[go_sem] theorem tn_35 : notInt Tryd.prog 35 = true := by kernel_rfl
@[go_sem] theorem tz_35 : tkZero Tryd.prog 35 = some [.int .i64 0, .string ⟨#[]⟩, .int .i64 0, .int .i64 0, .int .i64 0, .slice none 0 0, .int .i64 0, .bool false, .slice none 0 0] := by kernel_rfl
attribute [go_sem] Tryd.underlying36
@[go_sem] theorem tk_36 : tk Tryd.prog 36 = some (1, false) := by kernel_rfl
@[go_sem] theorem tp_36 : tkPlaces Tryd.prog 36 = none := by kernel_rfl
@[go_sem] theorem ta_36 : tkArr Tryd.prog 36 = none := by kernel_rfl
@[go_sem] theorem tb_36 : tkBytes Tryd.prog 36 = some 8 := by kernel_rfl
@[go_sem] theorem tn_36 : notInt Tryd.prog 36 = false := by kernel_rfl
@[go_sem] theorem tz_36 : tkZero Tryd.prog 36 = some [.int .i64 0] := by kernel_rfl
attribute [go_sem] Tryd.underlying41
@[go_sem] theorem tk_41 : tk Tryd.prog 41 = some (1, false) := by kernel_rfl
@[go_sem] theorem tp_41 : tkPlaces Tryd.prog 41 = none := by kernel_rfl
@[go_sem] theorem ta_41 : tkArr Tryd.prog 41 = none := by kernel_rfl
@[go_sem] theorem tb_41 : tkBytes Tryd.prog 41 = some 16 := by kernel_rfl
@[go_sem] theorem tn_41 : notInt Tryd.prog 41 = true := by kernel_rfl
@[go_sem] theorem tz_41 : tkZero Tryd.prog 41 = some [.nilIface] := by kernel_rfl
attribute [go_sem] Tryd.underlying64
@[go_sem] theorem tk_64 : tk Tryd.prog 64 = some (1, false) := by kernel_rfl
@[go_sem] theorem tp_64 : tkPlaces Tryd.prog 64 = none := by kernel_rfl
@[go_sem] theorem ta_64 : tkArr Tryd.prog 64 = none := by kernel_rfl
@[go_sem] theorem tb_64 : tkBytes Tryd.prog 64 = some 8 := by kernel_rfl
@[go_sem] theorem tn_64 : notInt Tryd.prog 64 = false := by kernel_rfl
@[go_sem] theorem tz_64 : tkZero Tryd.prog 64 = some [.int .u64 0] := by kernel_rfl
attribute [go_sem] Tryd.underlying69
@[go_sem] theorem tk_69 : tk Tryd.prog 69 = some (3, true) := by kernel_rfl
@[go_sem] theorem tf_69_0 : tkField Tryd.prog 69 0 = some (0, 1, false) := by kernel_rfl
@[go_sem] theorem tf_69_1 : tkField Tryd.prog 69 1 = some (1, 1, false) := by kernel_rfl
@[go_sem] theorem tf_69_2 : tkField Tryd.prog 69 2 = some (2, 1, false) := by kernel_rfl
@[go_sem] theorem tp_69 : tkPlaces Tryd.prog 69 = some [(0, 1), (1, 1), (2, 1)] := by kernel_rfl
@[go_sem] theorem ta_69 : tkArr Tryd.prog 69 = none := by kernel_rfl
@[go_sem] theorem tb_69 : tkBytes Tryd.prog 69 = some 56 := by kernel_rfl
@[go_sem] theorem tn_69 : notInt Tryd.prog 69 = true := by kernel_rfl
@[go_sem] theorem tz_69 : tkZero Tryd.prog 69 = some [.slice none 0 0, .slice none 0 0, .int .i64 0] := by kernel_rfl
attribute [go_sem] Tryd.underlying71
@[go_sem] theorem tk_71 : tk Tryd.prog 71 = some (1, false) := by kernel_rfl
@[go_sem] theorem tp_71 : tkPlaces Tryd.prog 71 = none := by kernel_rfl
@[go_sem] theorem ta_71 : tkArr Tryd.prog 71 = none := by kernel_rfl
@[go_sem] theorem tb_71 : tkBytes Tryd.prog 71 = some 8 := by kernel_rfl
@[go_sem] theorem tn_71 : notInt Tryd.prog 71 = true := by kernel_rfl
@[go_sem] theorem tz_71 : tkZero Tryd.prog 71 = some [.pointer none] := by kernel_rfl
attribute [go_sem] Tryd.underlying73
@[go_sem] theorem tk_73 : tk Tryd.prog 73 = some (1, false) := by kernel_rfl
@[go_sem] theorem tp_73 : tkPlaces Tryd.prog 73 = none := by kernel_rfl
@[go_sem] theorem ta_73 : tkArr Tryd.prog 73 = none := by kernel_rfl
@[go_sem] theorem tb_73 : tkBytes Tryd.prog 73 = some 8 := by kernel_rfl
@[go_sem] theorem tn_73 : notInt Tryd.prog 73 = true := by kernel_rfl
@[go_sem] theorem tz_73 : tkZero Tryd.prog 73 = some [.pointer none] := by kernel_rfl
attribute [go_sem] Tryd.underlying75
@[go_sem] theorem tk_75 : tk Tryd.prog 75 = some (4, true) := by kernel_rfl
@[go_sem] theorem tf_75_0 : tkField Tryd.prog 75 0 = some (0, 1, false) := by kernel_rfl
@[go_sem] theorem tf_75_1 : tkField Tryd.prog 75 1 = some (1, 1, false) := by kernel_rfl
@[go_sem] theorem tf_75_2 : tkField Tryd.prog 75 2 = some (2, 1, false) := by kernel_rfl
@[go_sem] theorem tf_75_3 : tkField Tryd.prog 75 3 = some (3, 1, false) := by kernel_rfl
@[go_sem] theorem tp_75 : tkPlaces Tryd.prog 75 = some [(0, 1), (1, 1), (2, 1), (3, 1)] := by kernel_rfl
@[go_sem] theorem ta_75 : tkArr Tryd.prog 75 = none := by kernel_rfl
@[go_sem] theorem tb_75 : tkBytes Tryd.prog 75 = some 48 := by kernel_rfl
@[go_sem] theorem tn_75 : notInt Tryd.prog 75 = true := by kernel_rfl
@[go_sem] theorem tz_75 : tkZero Tryd.prog 75 = some [.string ⟨#[]⟩, .int .i64 0, .int .i64 0, .nilIface] := by kernel_rfl
attribute [go_sem] Tryd.underlying80
@[go_sem] theorem tk_80 : tk Tryd.prog 80 = some (1, false) := by kernel_rfl
@[go_sem] theorem tp_80 : tkPlaces Tryd.prog 80 = none := by kernel_rfl
@[go_sem] theorem ta_80 : tkArr Tryd.prog 80 = none := by kernel_rfl
@[go_sem] theorem tb_80 : tkBytes Tryd.prog 80 = some 8 := by kernel_rfl
@[go_sem] theorem tn_80 : notInt Tryd.prog 80 = true := by kernel_rfl
@[go_sem] theorem tz_80 : tkZero Tryd.prog 80 = some [.nilFunc] := by kernel_rfl
attribute [go_sem] Tryd.underlying87
@[go_sem] theorem tk_87 : tk Tryd.prog 87 = some (2, true) := by kernel_rfl
@[go_sem] theorem tf_87_0 : tkField Tryd.prog 87 0 = some (0, 1, false) := by kernel_rfl
@[go_sem] theorem tf_87_1 : tkField Tryd.prog 87 1 = some (1, 1, false) := by kernel_rfl
@[go_sem] theorem tp_87 : tkPlaces Tryd.prog 87 = some [(0, 1), (1, 1)] := by kernel_rfl
@[go_sem] theorem ta_87 : tkArr Tryd.prog 87 = none := by kernel_rfl
@[go_sem] theorem tb_87 : tkBytes Tryd.prog 87 = some 16 := by kernel_rfl
@[go_sem] theorem tn_87 : notInt Tryd.prog 87 = true := by kernel_rfl
@[go_sem] theorem tz_87 : tkZero Tryd.prog 87 = some [.int .u64 0, .int .i64 0] := by kernel_rfl
attribute [go_sem] Tryd.underlying89
@[go_sem] theorem tk_89 : tk Tryd.prog 89 = some (1, false) := by kernel_rfl
@[go_sem] theorem tp_89 : tkPlaces Tryd.prog 89 = none := by kernel_rfl
@[go_sem] theorem ta_89 : tkArr Tryd.prog 89 = none := by kernel_rfl
@[go_sem] theorem tb_89 : tkBytes Tryd.prog 89 = some 8 := by kernel_rfl
@[go_sem] theorem tn_89 : notInt Tryd.prog 89 = true := by kernel_rfl
@[go_sem] theorem tz_89 : tkZero Tryd.prog 89 = some [.nilFunc] := by kernel_rfl
attribute [go_sem] Tryd.underlying93
@[go_sem] theorem tk_93 : tk Tryd.prog 93 = some (1, false) := by kernel_rfl
@[go_sem] theorem tp_93 : tkPlaces Tryd.prog 93 = none := by kernel_rfl
@[go_sem] theorem ta_93 : tkArr Tryd.prog 93 = none := by kernel_rfl
@[go_sem] theorem tb_93 : tkBytes Tryd.prog 93 = some 8 := by kernel_rfl
@[go_sem] theorem tn_93 : notInt Tryd.prog 93 = true := by kernel_rfl
@[go_sem] theorem tz_93 : tkZero Tryd.prog 93 = some [.nilFunc] := by kernel_rfl
attribute [go_sem] Tryd.underlying97
@[go_sem] theorem tk_97 : tk Tryd.prog 97 = some (1, false) := by kernel_rfl
@[go_sem] theorem tp_97 : tkPlaces Tryd.prog 97 = none := by kernel_rfl
@[go_sem] theorem ta_97 : tkArr Tryd.prog 97 = none := by kernel_rfl
@[go_sem] theorem tb_97 : tkBytes Tryd.prog 97 = some 8 := by kernel_rfl
@[go_sem] theorem tn_97 : notInt Tryd.prog 97 = true := by kernel_rfl
@[go_sem] theorem tz_97 : tkZero Tryd.prog 97 = some [.pointer none] := by kernel_rfl
attribute [go_sem] Tryd.underlying98
@[go_sem] theorem tk_98 : tk Tryd.prog 98 = some (1, false) := by kernel_rfl
@[go_sem] theorem tp_98 : tkPlaces Tryd.prog 98 = none := by kernel_rfl
@[go_sem] theorem ta_98 : tkArr Tryd.prog 98 = none := by kernel_rfl
@[go_sem] theorem tb_98 : tkBytes Tryd.prog 98 = some 8 := by kernel_rfl
@[go_sem] theorem tn_98 : notInt Tryd.prog 98 = false := by kernel_rfl
@[go_sem] theorem tz_98 : tkZero Tryd.prog 98 = some [.int .u64 0] := by kernel_rfl
attribute [go_sem] Tryd.underlying100
@[go_sem] theorem tk_100 : tk Tryd.prog 100 = some (3, true) := by kernel_rfl
@[go_sem] theorem tf_100_0 : tkField Tryd.prog 100 0 = some (0, 1, false) := by kernel_rfl
@[go_sem] theorem tf_100_1 : tkField Tryd.prog 100 1 = some (1, 1, false) := by kernel_rfl
@[go_sem] theorem tf_100_2 : tkField Tryd.prog 100 2 = some (2, 1, false) := by kernel_rfl
@[go_sem] theorem tp_100 : tkPlaces Tryd.prog 100 = some [(0, 1), (1, 1), (2, 1)] := by kernel_rfl
@[go_sem] theorem ta_100 : tkArr Tryd.prog 100 = none := by kernel_rfl
@[go_sem] theorem tb_100 : tkBytes Tryd.prog 100 = some 24 := by kernel_rfl
@[go_sem] theorem tn_100 : notInt Tryd.prog 100 = true := by kernel_rfl
@[go_sem] theorem tz_100 : tkZero Tryd.prog 100 = some [.pointer none, .pointer none, .int .u64 0] := by kernel_rfl
attribute [go_sem] Tryd.underlying103
@[go_sem] theorem tk_103 : tk Tryd.prog 103 = some (1, false) := by kernel_rfl
@[go_sem] theorem tp_103 : tkPlaces Tryd.prog 103 = none := by kernel_rfl
@[go_sem] theorem ta_103 : tkArr Tryd.prog 103 = none := by kernel_rfl
@[go_sem] theorem tb_103 : tkBytes Tryd.prog 103 = some 16 := by kernel_rfl
@[go_sem] theorem tn_103 : notInt Tryd.prog 103 = true := by kernel_rfl
@[go_sem] theorem tz_103 : tkZero Tryd.prog 103 = some [.nilIface] := by kernel_rfl
attribute [go_sem] Tryd.underlying105
@[go_sem] theorem tk_105 : tk Tryd.prog 105 = some (1, false) := by kernel_rfl
@[go_sem] theorem tp_105 : tkPlaces Tryd.prog 105 = none := by kernel_rfl
@[go_sem] theorem ta_105 : tkArr Tryd.prog 105 = none := by kernel_rfl
@[go_sem] theorem tb_105 : tkBytes Tryd.prog 105 = some 1 := by kernel_rfl
@[go_sem] theorem tn_105 : notInt Tryd.prog 105 = false := by kernel_rfl
@[go_sem] theorem tz_105 : tkZero Tryd.prog 105 = some [.int .u8 0] := by kernel_rfl
attribute [go_sem] Tryd.underlying112
@[go_sem] theorem tk_112 : tk Tryd.prog 112 = some (1, false) := by kernel_rfl
@[go_sem] theorem tp_112 : tkPlaces Tryd.prog 112 = none := by kernel_rfl
@[go_sem] theorem ta_112 : tkArr Tryd.prog 112 = none := by kernel_rfl
@[go_sem] theorem tb_112 : tkBytes Tryd.prog 112 = some 8 := by kernel_rfl
@[go_sem] theorem tn_112 : notInt Tryd.prog 112 = true := by kernel_rfl
@[go_sem] theorem tz_112 : tkZero Tryd.prog 112 = some [.nilFunc] := by kernel_rfl
attribute [go_sem] Tryd.underlying116
@[go_sem] theorem tk_116 : tk Tryd.prog 116 = some (1, false) := by kernel_rfl
@[go_sem] theorem tp_116 : tkPlaces Tryd.prog 116 = none := by kernel_rfl
@[go_sem] theorem ta_116 : tkArr Tryd.prog 116 = none := by kernel_rfl
@[go_sem] theorem tb_116 : tkBytes Tryd.prog 116 = some 8 := by kernel_rfl
@[go_sem] theorem tn_116 : notInt Tryd.prog 116 = true := by kernel_rfl
@[go_sem] theorem tz_116 : tkZero Tryd.prog 116 = some [.nilFunc] := by kernel_rfl
attribute [go_sem] Tryd.underlying126
@[go_sem] theorem tk_126 : tk Tryd.prog 126 = some (1, false) := by kernel_rfl
@[go_sem] theorem tp_126 : tkPlaces Tryd.prog 126 = none := by kernel_rfl
@[go_sem] theorem ta_126 : tkArr Tryd.prog 126 = none := by kernel_rfl
@[go_sem] theorem tb_126 : tkBytes Tryd.prog 126 = some 16 := by kernel_rfl
@[go_sem] theorem tn_126 : notInt Tryd.prog 126 = true := by kernel_rfl
@[go_sem] theorem tz_126 : tkZero Tryd.prog 126 = some [.nilIface] := by kernel_rfl
attribute [go_sem] Tryd.underlying129
@[go_sem] theorem tk_129 : tk Tryd.prog 129 = some (1, false) := by kernel_rfl
@[go_sem] theorem tp_129 : tkPlaces Tryd.prog 129 = none := by kernel_rfl
@[go_sem] theorem ta_129 : tkArr Tryd.prog 129 = none := by kernel_rfl
@[go_sem] theorem tb_129 : tkBytes Tryd.prog 129 = some 16 := by kernel_rfl
@[go_sem] theorem tn_129 : notInt Tryd.prog 129 = true := by kernel_rfl
@[go_sem] theorem tz_129 : tkZero Tryd.prog 129 = some [.nilIface] := by kernel_rfl
attribute [go_sem] Tryd.underlying131
@[go_sem] theorem tk_131 : tk Tryd.prog 131 = some (1, false) := by kernel_rfl
@[go_sem] theorem tp_131 : tkPlaces Tryd.prog 131 = none := by kernel_rfl
@[go_sem] theorem ta_131 : tkArr Tryd.prog 131 = none := by kernel_rfl
@[go_sem] theorem tb_131 : tkBytes Tryd.prog 131 = some 16 := by kernel_rfl
@[go_sem] theorem tn_131 : notInt Tryd.prog 131 = true := by kernel_rfl
@[go_sem] theorem tz_131 : tkZero Tryd.prog 131 = some [.nilIface] := by kernel_rfl
attribute [go_sem] Tryd.underlying132
@[go_sem] theorem tk_132 : tk Tryd.prog 132 = some (1, false) := by kernel_rfl
@[go_sem] theorem tp_132 : tkPlaces Tryd.prog 132 = none := by kernel_rfl
@[go_sem] theorem ta_132 : tkArr Tryd.prog 132 = none := by kernel_rfl
@[go_sem] theorem te_132 : tkElem Tryd.prog 132 = some (1, false) := by kernel_rfl
@[go_sem] theorem tb_132 : tkBytes Tryd.prog 132 = some 24 := by kernel_rfl
@[go_sem] theorem tn_132 : notInt Tryd.prog 132 = true := by kernel_rfl
@[go_sem] theorem tz_132 : tkZero Tryd.prog 132 = some [.slice none 0 0] := by kernel_rfl
attribute [go_sem] Tryd.underlying134
@[go_sem] theorem tk_134 : tk Tryd.prog 134 = some (1, false) := by kernel_rfl
@[go_sem] theorem tp_134 : tkPlaces Tryd.prog 134 = none := by kernel_rfl
@[go_sem] theorem ta_134 : tkArr Tryd.prog 134 = none := by kernel_rfl
@[go_sem] theorem tb_134 : tkBytes Tryd.prog 134 = some 8 := by kernel_rfl
@[go_sem] theorem tn_134 : notInt Tryd.prog 134 = false := by kernel_rfl
@[go_sem] theorem tz_134 : tkZero Tryd.prog 134 = some [.int .u64 0] := by kernel_rfl
end Go.Proofs.YtncincpkdphojaaDoor
end

section
namespace Go.Proofs.YtncincpkdphojaaDoor
open Go Go.Av
theorem cl_3 : callable Tryd.prog 3 = true := by kernel_rfl
theorem cl_4 : callable Tryd.prog 4 = true := by kernel_rfl
theorem cl_5 : callable Tryd.prog 5 = true := by kernel_rfl
theorem cl_6 : callable Tryd.prog 6 = true := by kernel_rfl
theorem cl_7 : callable Tryd.prog 7 = true := by kernel_rfl
theorem cl_8 : callable Tryd.prog 8 = true := by kernel_rfl
theorem cl_9 : callable Tryd.prog 9 = true := by kernel_rfl
theorem cl_10 : callable Tryd.prog 10 = true := by kernel_rfl
theorem cl_11 : callable Tryd.prog 11 = true := by kernel_rfl
theorem cl_12 : callable Tryd.prog 12 = true := by kernel_rfl
theorem cl_13 : callable Tryd.prog 13 = true := by kernel_rfl
theorem cl_14 : callable Tryd.prog 14 = true := by kernel_rfl
theorem cl_15 : callable Tryd.prog 15 = true := by kernel_rfl
theorem cl_16 : callable Tryd.prog 16 = true := by kernel_rfl
theorem cl_17 : callable Tryd.prog 17 = true := by kernel_rfl
theorem cl_18 : callable Tryd.prog 18 = true := by kernel_rfl
theorem cl_19 : callable Tryd.prog 19 = true := by kernel_rfl
theorem cl_20 : callable Tryd.prog 20 = true := by kernel_rfl
theorem cl_21 : callable Tryd.prog 21 = true := by kernel_rfl
theorem cl_22 : callable Tryd.prog 22 = true := by kernel_rfl
theorem cl_23 : callable Tryd.prog 23 = true := by kernel_rfl
theorem cl_24 : callable Tryd.prog 24 = true := by kernel_rfl
theorem cl_25 : callable Tryd.prog 25 = true := by kernel_rfl
theorem cl_26 : callable Tryd.prog 26 = true := by kernel_rfl
theorem cl_27 : callable Tryd.prog 27 = true := by kernel_rfl
theorem cl_28 : callable Tryd.prog 28 = true := by kernel_rfl
theorem cl_29 : callable Tryd.prog 29 = true := by kernel_rfl
theorem cl_30 : callable Tryd.prog 30 = true := by kernel_rfl
theorem cl_31 : callable Tryd.prog 31 = true := by kernel_rfl
theorem cl_32 : callable Tryd.prog 32 = true := by kernel_rfl
theorem cl_33 : callable Tryd.prog 33 = true := by kernel_rfl
theorem cl_34 : callable Tryd.prog 34 = true := by kernel_rfl
theorem cl_35 : callable Tryd.prog 35 = true := by kernel_rfl
theorem cl_36 : callable Tryd.prog 36 = true := by kernel_rfl
theorem cl_37 : callable Tryd.prog 37 = true := by kernel_rfl
theorem cl_38 : callable Tryd.prog 38 = true := by kernel_rfl
theorem cl_39 : callable Tryd.prog 39 = true := by kernel_rfl
theorem cl_40 : callable Tryd.prog 40 = true := by kernel_rfl
theorem cl_41 : callable Tryd.prog 41 = true := by kernel_rfl
theorem cl_42 : callable Tryd.prog 42 = true := by kernel_rfl
theorem cl_43 : callable Tryd.prog 43 = true := by kernel_rfl
theorem cl_44 : callable Tryd.prog 44 = true := by kernel_rfl
theorem cl_45 : callable Tryd.prog 45 = true := by kernel_rfl
theorem cl_46 : callable Tryd.prog 46 = true := by kernel_rfl
theorem cl_47 : callable Tryd.prog 47 = true := by kernel_rfl
theorem cl_48 : callable Tryd.prog 48 = true := by kernel_rfl
theorem cl_49 : callable Tryd.prog 49 = true := by kernel_rfl
theorem cl_50 : callable Tryd.prog 50 = true := by kernel_rfl
theorem cl_51 : callable Tryd.prog 51 = true := by kernel_rfl
theorem cl_52 : callable Tryd.prog 52 = true := by kernel_rfl
theorem cl_53 : callable Tryd.prog 53 = true := by kernel_rfl
theorem cl_54 : callable Tryd.prog 54 = true := by kernel_rfl
theorem cl_58 : callable Tryd.prog 58 = true := by kernel_rfl
theorem cl_59 : callable Tryd.prog 59 = true := by kernel_rfl
theorem cl_60 : callable Tryd.prog 60 = true := by kernel_rfl
theorem cl_61 : callable Tryd.prog 61 = true := by kernel_rfl
theorem cl_62 : callable Tryd.prog 62 = true := by kernel_rfl
theorem cl_63 : callable Tryd.prog 63 = true := by kernel_rfl
theorem cl_65 : callable Tryd.prog 65 = true := by kernel_rfl
theorem cl_66 : callable Tryd.prog 66 = true := by kernel_rfl
theorem cl_67 : callable Tryd.prog 67 = true := by kernel_rfl
theorem cl_68 : callable Tryd.prog 68 = true := by kernel_rfl
theorem cl_69 : callable Tryd.prog 69 = true := by kernel_rfl
theorem cl_71 : callable Tryd.prog 71 = true := by kernel_rfl
theorem cl_72 : callable Tryd.prog 72 = true := by kernel_rfl
theorem cl_73 : callable Tryd.prog 73 = true := by kernel_rfl
theorem cl_77 : callable Tryd.prog 77 = true := by kernel_rfl
theorem cl_78 : callable Tryd.prog 78 = true := by kernel_rfl
theorem cl_79 : callable Tryd.prog 79 = true := by kernel_rfl
theorem cl_80 : callable Tryd.prog 80 = true := by kernel_rfl
theorem cl_81 : callable Tryd.prog 81 = true := by kernel_rfl
theorem cl_82 : callable Tryd.prog 82 = true := by kernel_rfl
theorem cl_101 : callable Tryd.prog 101 = true := by kernel_rfl
end Go.Proofs.YtncincpkdphojaaDoor
end
