/- Facts on this translation's types and functions, printed by a program of this session. -/
import Derived.Test.YtgklklmcmdcpgaaDoorK3
import Derived.Test.YtgklklmcmdcpgaaDoorProg
import Derived.KernelRfl
set_option maxRecDepth 100000
namespace Go.SK
open Go Go.Proofs
theorem mo : Tryd.prog.follows .mixedOrders = true := by kernel_rfl
theorem ts_int64 : TScal Tryd.prog 2 := ⟨fun w => by kernel_rfl, fun w => by kernel_rfl⟩
theorem tz_int64 : TZero Tryd.prog 2 (.int .i64 0) := fun w => by kernel_rfl
theorem un_int64 : Tryd.prog.underlying 2 = some (.int .i64) := Tryd.underlying2
theorem ts_int : TScal Tryd.prog 3 := ⟨fun w => by kernel_rfl, fun w => by kernel_rfl⟩
theorem tz_int : TZero Tryd.prog 3 (.int .i64 0) := fun w => by kernel_rfl
theorem un_int : Tryd.prog.underlying 3 = some (.int .i64) := Tryd.underlying3
theorem ts_bool : TScal Tryd.prog 4 := ⟨fun w => by kernel_rfl, fun w => by kernel_rfl⟩
theorem tz_bool : TZero Tryd.prog 4 (.bool false) := fun w => by kernel_rfl
theorem un_bool : Tryd.prog.underlying 4 = some .bool := Tryd.underlying4
theorem ts_uint8 : TScal Tryd.prog 5 := ⟨fun w => by kernel_rfl, fun w => by kernel_rfl⟩
theorem tz_uint8 : TZero Tryd.prog 5 (.int .u8 0) := fun w => by kernel_rfl
theorem un_uint8 : Tryd.prog.underlying 5 = some (.int .u8) := Tryd.underlying5
theorem ts_string : TScal Tryd.prog 9 := ⟨fun w => by kernel_rfl, fun w => by kernel_rfl⟩
theorem tz_string : TZero Tryd.prog 9 (.string ⟨#[]⟩) := fun w => by kernel_rfl
theorem un_string : Tryd.prog.underlying 9 = some .string := Tryd.underlying9
theorem ts_uintptr : TScal Tryd.prog 12 := ⟨fun w => by kernel_rfl, fun w => by kernel_rfl⟩
theorem tz_uintptr : TZero Tryd.prog 12 (.int .u64 0) := fun w => by kernel_rfl
theorem un_uintptr : Tryd.prog.underlying 12 = some (.int .u64) := Tryd.underlying12
theorem ts_int32 : TScal Tryd.prog 21 := ⟨fun w => by kernel_rfl, fun w => by kernel_rfl⟩
theorem tz_int32 : TZero Tryd.prog 21 (.int .i32 0) := fun w => by kernel_rfl
theorem un_int32 : Tryd.prog.underlying 21 = some (.int .i32) := Tryd.underlying21
theorem ts_sl_api_Part : TScal Tryd.prog 23 := ⟨fun w => by kernel_rfl, fun w => by kernel_rfl⟩
theorem tz_sl_api_Part : TZero Tryd.prog 23 (.slice none 0 0) := fun w => by kernel_rfl
theorem un_sl_api_Part : Tryd.prog.underlying 23 = some (.slice 47) := Tryd.underlying23
theorem tsl_api_Part : TSlice Tryd.prog 23 47 3 32 (.agg #[.int .i64 0, .int .i64 0, .string ⟨#[]⟩]) := ⟨Tryd.underlying23, by kernel_rfl, rfl⟩
theorem ts_api_Errno : TScal Tryd.prog 24 := ⟨fun w => by kernel_rfl, fun w => by kernel_rfl⟩
theorem tz_api_Errno : TZero Tryd.prog 24 (.int .i64 0) := fun w => by kernel_rfl
theorem un_api_Errno : Tryd.prog.underlying 24 = some (.int .i64) := Tryd.underlying24
theorem tst_api_Part : TStruct Tryd.prog 47 3 := ⟨fun w => by kernel_rfl, fun w => by kernel_rfl⟩
theorem fld_api_Part_Kind : TField Tryd.prog 47 0 0 := fun ad w => by kernel_rfl
theorem fld_api_Part_N : TField Tryd.prog 47 1 1 := fun ad w => by kernel_rfl
theorem fld_api_Part_Text : TField Tryd.prog 47 2 2 := fun ad w => by kernel_rfl
theorem tz_api_Part : TZero Tryd.prog 47 (.agg #[.int .i64 0, .int .i64 0, .string ⟨#[]⟩]) := fun w => by kernel_rfl
theorem ts_uint : TScal Tryd.prog 55 := ⟨fun w => by kernel_rfl, fun w => by kernel_rfl⟩
theorem tz_uint : TZero Tryd.prog 55 (.int .u64 0) := fun w => by kernel_rfl
theorem un_uint : Tryd.prog.underlying 55 = some (.int .u64) := Tryd.underlying55
theorem tst_ar2_int : TStruct Tryd.prog 57 2 := ⟨fun w => by kernel_rfl, fun w => by kernel_rfl⟩
theorem tz_ar2_int : TZero Tryd.prog 57 (.agg #[.int .i64 0, .int .i64 0]) := fun w => by kernel_rfl
theorem tst_edit_maker : TStruct Tryd.prog 63 1 := ⟨fun w => by kernel_rfl, fun w => by kernel_rfl⟩
theorem fld_edit_maker_out : TField Tryd.prog 63 0 0 := fun ad w => by kernel_rfl
theorem tz_edit_maker : TZero Tryd.prog 63 (.agg #[.slice none 0 0]) := fun w => by kernel_rfl
theorem ts_sl_uint8 : TScal Tryd.prog 68 := ⟨fun w => by kernel_rfl, fun w => by kernel_rfl⟩
theorem tz_sl_uint8 : TZero Tryd.prog 68 (.slice none 0 0) := fun w => by kernel_rfl
theorem un_sl_uint8 : Tryd.prog.underlying 68 = some (.slice 5) := Tryd.underlying68
theorem tsl_uint8 : TSlice Tryd.prog 68 5 1 1 (.int .u8 0) := ⟨Tryd.underlying68, by kernel_rfl, rfl⟩
theorem ts_sl_sl_api_Part : TScal Tryd.prog 72 := ⟨fun w => by kernel_rfl, fun w => by kernel_rfl⟩
theorem tz_sl_sl_api_Part : TZero Tryd.prog 72 (.slice none 0 0) := fun w => by kernel_rfl
theorem un_sl_sl_api_Part : Tryd.prog.underlying 72 = some (.slice 23) := Tryd.underlying72
theorem tsl_sl_api_Part : TSlice Tryd.prog 72 23 1 24 (.slice none 0 0) := ⟨Tryd.underlying72, by kernel_rfl, rfl⟩
theorem ts_sl_int32 : TScal Tryd.prog 74 := ⟨fun w => by kernel_rfl, fun w => by kernel_rfl⟩
theorem tz_sl_int32 : TZero Tryd.prog 74 (.slice none 0 0) := fun w => by kernel_rfl
theorem un_sl_int32 : Tryd.prog.underlying 74 = some (.slice 21) := Tryd.underlying74
theorem tsl_int32 : TSlice Tryd.prog 74 21 1 4 (.int .i32 0) := ⟨Tryd.underlying74, by kernel_rfl, rfl⟩
theorem ts_sl_string : TScal Tryd.prog 75 := ⟨fun w => by kernel_rfl, fun w => by kernel_rfl⟩
theorem tz_sl_string : TZero Tryd.prog 75 (.slice none 0 0) := fun w => by kernel_rfl
theorem un_sl_string : Tryd.prog.underlying 75 = some (.slice 9) := Tryd.underlying75
theorem tsl_string : TSlice Tryd.prog 75 9 1 16 (.string ⟨#[]⟩) := ⟨Tryd.underlying75, by kernel_rfl, rfl⟩
theorem ts_sl_bool : TScal Tryd.prog 76 := ⟨fun w => by kernel_rfl, fun w => by kernel_rfl⟩
theorem tz_sl_bool : TZero Tryd.prog 76 (.slice none 0 0) := fun w => by kernel_rfl
theorem un_sl_bool : Tryd.prog.underlying 76 = some (.slice 4) := Tryd.underlying76
theorem tsl_bool : TSlice Tryd.prog 76 4 1 1 (.bool false) := ⟨Tryd.underlying76, by kernel_rfl, rfl⟩
theorem tst_sealskinref03_Wide : TStruct Tryd.prog 78 2 := ⟨fun w => by kernel_rfl, fun w => by kernel_rfl⟩
theorem fld_sealskinref03_Wide_Puts : TField Tryd.prog 78 0 0 := fun ad w => by kernel_rfl
theorem fld_sealskinref03_Wide_Drop : TField Tryd.prog 78 1 1 := fun ad w => by kernel_rfl
theorem tz_sealskinref03_Wide : TZero Tryd.prog 78 (.agg #[.slice none 0 0, .slice none 0 0]) := fun w => by kernel_rfl
theorem ts_p_edit_walk : TScal Tryd.prog 84 := ⟨fun w => by kernel_rfl, fun w => by kernel_rfl⟩
theorem tz_p_edit_walk : TZero Tryd.prog 84 (.pointer none) := fun w => by kernel_rfl
theorem tst_ar16_utf8_acceptRange : TStruct Tryd.prog 91 32 := ⟨fun w => by kernel_rfl, fun w => by kernel_rfl⟩
theorem tz_ar16_utf8_acceptRange : TZero Tryd.prog 91 (.agg #[.int .u8 0, .int .u8 0, .int .u8 0, .int .u8 0, .int .u8 0, .int .u8 0, .int .u8 0, .int .u8 0, .int .u8 0, .int .u8 0, .int .u8 0, .int .u8 0, .int .u8 0, .int .u8 0, .int .u8 0, .int .u8 0, .int .u8 0, .int .u8 0, .int .u8 0, .int .u8 0, .int .u8 0, .int .u8 0, .int .u8 0, .int .u8 0, .int .u8 0, .int .u8 0, .int .u8 0, .int .u8 0, .int .u8 0, .int .u8 0, .int .u8 0, .int .u8 0]) := fun w => by kernel_rfl
theorem ts_p_edit_maker : TScal Tryd.prog 92 := ⟨fun w => by kernel_rfl, fun w => by kernel_rfl⟩
theorem tz_p_edit_maker : TZero Tryd.prog 92 (.pointer none) := fun w => by kernel_rfl
theorem tst_edit_walk : TStruct Tryd.prog 96 2 := ⟨fun w => by kernel_rfl, fun w => by kernel_rfl⟩
theorem fld_edit_walk_l : TField Tryd.prog 96 0 0 := fun ad w => by kernel_rfl
theorem fld_edit_walk_text : TField Tryd.prog 96 1 1 := fun ad w => by kernel_rfl
theorem tz_edit_walk : TZero Tryd.prog 96 (.agg #[.slice none 0 0, .slice none 0 0]) := fun w => by kernel_rfl
theorem ts_uint64 : TScal Tryd.prog 97 := ⟨fun w => by kernel_rfl, fun w => by kernel_rfl⟩
theorem tz_uint64 : TZero Tryd.prog 97 (.int .u64 0) := fun w => by kernel_rfl
theorem un_uint64 : Tryd.prog.underlying 97 = some (.int .u64) := Tryd.underlying97
theorem ts_uint32 : TScal Tryd.prog 104 := ⟨fun w => by kernel_rfl, fun w => by kernel_rfl⟩
theorem tz_uint32 : TZero Tryd.prog 104 (.int .u32 0) := fun w => by kernel_rfl
theorem un_uint32 : Tryd.prog.underlying 104 = some (.int .u32) := Tryd.underlying104
theorem ts_p_uint8 : TScal Tryd.prog 108 := ⟨fun w => by kernel_rfl, fun w => by kernel_rfl⟩
theorem tz_p_uint8 : TZero Tryd.prog 108 (.pointer none) := fun w => by kernel_rfl
theorem en_3 : Enters Tryd.prog 3 := enters_of Tryd.func3 (by kernel_rfl) (by kernel_rfl)
theorem en_4 : Enters Tryd.prog 4 := enters_of Tryd.func4 (by kernel_rfl) (by kernel_rfl)
theorem en_5 : Enters Tryd.prog 5 := enters_of Tryd.func5 (by kernel_rfl) (by kernel_rfl)
theorem en_6 : Enters Tryd.prog 6 := enters_of Tryd.func6 (by kernel_rfl) (by kernel_rfl)
theorem en_7 : Enters Tryd.prog 7 := enters_of Tryd.func7 (by kernel_rfl) (by kernel_rfl)
theorem en_8 : Enters Tryd.prog 8 := enters_of Tryd.func8 (by kernel_rfl) (by kernel_rfl)
theorem en_9 : Enters Tryd.prog 9 := enters_of Tryd.func9 (by kernel_rfl) (by kernel_rfl)
theorem en_10 : Enters Tryd.prog 10 := enters_of Tryd.func10 (by kernel_rfl) (by kernel_rfl)
theorem en_11 : Enters Tryd.prog 11 := enters_of Tryd.func11 (by kernel_rfl) (by kernel_rfl)
theorem en_12 : Enters Tryd.prog 12 := enters_of Tryd.func12 (by kernel_rfl) (by kernel_rfl)
theorem en_13 : Enters Tryd.prog 13 := enters_of Tryd.func13 (by kernel_rfl) (by kernel_rfl)
theorem en_14 : Enters Tryd.prog 14 := enters_of Tryd.func14 (by kernel_rfl) (by kernel_rfl)
theorem en_15 : Enters Tryd.prog 15 := enters_of Tryd.func15 (by kernel_rfl) (by kernel_rfl)
theorem en_16 : Enters Tryd.prog 16 := enters_of Tryd.func16 (by kernel_rfl) (by kernel_rfl)
theorem en_17 : Enters Tryd.prog 17 := enters_of Tryd.func17 (by kernel_rfl) (by kernel_rfl)
theorem en_18 : Enters Tryd.prog 18 := enters_of Tryd.func18 (by kernel_rfl) (by kernel_rfl)
theorem en_19 : Enters Tryd.prog 19 := enters_of Tryd.func19 (by kernel_rfl) (by kernel_rfl)
theorem en_20 : Enters Tryd.prog 20 := enters_of Tryd.func20 (by kernel_rfl) (by kernel_rfl)
theorem en_21 : Enters Tryd.prog 21 := enters_of Tryd.func21 (by kernel_rfl) (by kernel_rfl)
theorem en_22 : Enters Tryd.prog 22 := enters_of Tryd.func22 (by kernel_rfl) (by kernel_rfl)
theorem en_23 : Enters Tryd.prog 23 := enters_of Tryd.func23 (by kernel_rfl) (by kernel_rfl)
theorem en_24 : Enters Tryd.prog 24 := enters_of Tryd.func24 (by kernel_rfl) (by kernel_rfl)
theorem en_25 : Enters Tryd.prog 25 := enters_of Tryd.func25 (by kernel_rfl) (by kernel_rfl)
theorem en_26 : Enters Tryd.prog 26 := enters_of Tryd.func26 (by kernel_rfl) (by kernel_rfl)
theorem en_27 : Enters Tryd.prog 27 := enters_of Tryd.func27 (by kernel_rfl) (by kernel_rfl)
theorem en_28 : Enters Tryd.prog 28 := enters_of Tryd.func28 (by kernel_rfl) (by kernel_rfl)
theorem en_29 : Enters Tryd.prog 29 := enters_of Tryd.func29 (by kernel_rfl) (by kernel_rfl)
theorem en_30 : Enters Tryd.prog 30 := enters_of Tryd.func30 (by kernel_rfl) (by kernel_rfl)
theorem en_31 : Enters Tryd.prog 31 := enters_of Tryd.func31 (by kernel_rfl) (by kernel_rfl)
theorem en_32 : Enters Tryd.prog 32 := enters_of Tryd.func32 (by kernel_rfl) (by kernel_rfl)
theorem en_33 : Enters Tryd.prog 33 := enters_of Tryd.func33 (by kernel_rfl) (by kernel_rfl)
theorem en_34 : Enters Tryd.prog 34 := enters_of Tryd.func34 (by kernel_rfl) (by kernel_rfl)
theorem en_35 : Enters Tryd.prog 35 := enters_of Tryd.func35 (by kernel_rfl) (by kernel_rfl)
theorem en_36 : Enters Tryd.prog 36 := enters_of Tryd.func36 (by kernel_rfl) (by kernel_rfl)
theorem en_37 : Enters Tryd.prog 37 := enters_of Tryd.func37 (by kernel_rfl) (by kernel_rfl)
theorem en_38 : Enters Tryd.prog 38 := enters_of Tryd.func38 (by kernel_rfl) (by kernel_rfl)
theorem en_39 : Enters Tryd.prog 39 := enters_of Tryd.func39 (by kernel_rfl) (by kernel_rfl)
theorem en_40 : Enters Tryd.prog 40 := enters_of Tryd.func40 (by kernel_rfl) (by kernel_rfl)
theorem en_41 : Enters Tryd.prog 41 := enters_of Tryd.func41 (by kernel_rfl) (by kernel_rfl)
theorem en_42 : Enters Tryd.prog 42 := enters_of Tryd.func42 (by kernel_rfl) (by kernel_rfl)
theorem en_43 : Enters Tryd.prog 43 := enters_of Tryd.func43 (by kernel_rfl) (by kernel_rfl)
theorem en_44 : Enters Tryd.prog 44 := enters_of Tryd.func44 (by kernel_rfl) (by kernel_rfl)
theorem en_45 : Enters Tryd.prog 45 := enters_of Tryd.func45 (by kernel_rfl) (by kernel_rfl)
theorem en_46 : Enters Tryd.prog 46 := enters_of Tryd.func46 (by kernel_rfl) (by kernel_rfl)
theorem en_47 : Enters Tryd.prog 47 := enters_of Tryd.func47 (by kernel_rfl) (by kernel_rfl)
theorem en_48 : Enters Tryd.prog 48 := enters_of Tryd.func48 (by kernel_rfl) (by kernel_rfl)
theorem en_49 : Enters Tryd.prog 49 := enters_of Tryd.func49 (by kernel_rfl) (by kernel_rfl)
theorem en_50 : Enters Tryd.prog 50 := enters_of Tryd.func50 (by kernel_rfl) (by kernel_rfl)
theorem en_51 : Enters Tryd.prog 51 := enters_of Tryd.func51 (by kernel_rfl) (by kernel_rfl)
theorem en_52 : Enters Tryd.prog 52 := enters_of Tryd.func52 (by kernel_rfl) (by kernel_rfl)
theorem en_53 : Enters Tryd.prog 53 := enters_of Tryd.func53 (by kernel_rfl) (by kernel_rfl)
theorem en_54 : Enters Tryd.prog 54 := enters_of Tryd.func54 (by kernel_rfl) (by kernel_rfl)
theorem en_55 : Enters Tryd.prog 55 := enters_of Tryd.func55 (by kernel_rfl) (by kernel_rfl)
theorem en_56 : Enters Tryd.prog 56 := enters_of Tryd.func56 (by kernel_rfl) (by kernel_rfl)
theorem en_57 : Enters Tryd.prog 57 := enters_of Tryd.func57 (by kernel_rfl) (by kernel_rfl)
theorem en_58 : Enters Tryd.prog 58 := enters_of Tryd.func58 (by kernel_rfl) (by kernel_rfl)
theorem en_59 : Enters Tryd.prog 59 := enters_of Tryd.func59 (by kernel_rfl) (by kernel_rfl)
theorem en_60 : Enters Tryd.prog 60 := enters_of Tryd.func60 (by kernel_rfl) (by kernel_rfl)
theorem en_61 : Enters Tryd.prog 61 := enters_of Tryd.func61 (by kernel_rfl) (by kernel_rfl)
theorem en_62 : Enters Tryd.prog 62 := enters_of Tryd.func62 (by kernel_rfl) (by kernel_rfl)
theorem en_63 : Enters Tryd.prog 63 := enters_of Tryd.func63 (by kernel_rfl) (by kernel_rfl)
theorem en_64 : Enters Tryd.prog 64 := enters_of Tryd.func64 (by kernel_rfl) (by kernel_rfl)
theorem en_65 : Enters Tryd.prog 65 := enters_of Tryd.func65 (by kernel_rfl) (by kernel_rfl)
theorem en_66 : Enters Tryd.prog 66 := enters_of Tryd.func66 (by kernel_rfl) (by kernel_rfl)
theorem en_67 : Enters Tryd.prog 67 := enters_of Tryd.func67 (by kernel_rfl) (by kernel_rfl)
theorem en_68 : Enters Tryd.prog 68 := enters_of Tryd.func68 (by kernel_rfl) (by kernel_rfl)
theorem en_69 : Enters Tryd.prog 69 := enters_of Tryd.func69 (by kernel_rfl) (by kernel_rfl)
theorem en_70 : Enters Tryd.prog 70 := enters_of Tryd.func70 (by kernel_rfl) (by kernel_rfl)
theorem en_71 : Enters Tryd.prog 71 := enters_of Tryd.func71 (by kernel_rfl) (by kernel_rfl)
theorem en_72 : Enters Tryd.prog 72 := enters_of Tryd.func72 (by kernel_rfl) (by kernel_rfl)
theorem en_73 : Enters Tryd.prog 73 := enters_of Tryd.func73 (by kernel_rfl) (by kernel_rfl)
theorem bs_sl_api_Part_1 (a0 : Value) (h0 : a0.oneCell' = true := by first | rfl | assumption) : ∀ w : World, (Instr.buildSlice 72 1 #[(0, a0)]).run Tryd.prog w = .ok (.slice (some ⟨w.heap.size, 0, none⟩) 1 1) (w.alloc (.cells [a0].toArray 23 (0, 0))) := by
  (cases a0 <;> first | (cases h0; done) | skip) <;> (intro w; kernel_rfl)
theorem bs_sl_api_Part_2 (a0 : Value) (a1 : Value) (h0 : a0.oneCell' = true := by first | rfl | assumption) (h1 : a1.oneCell' = true := by first | rfl | assumption) : ∀ w : World, (Instr.buildSlice 72 2 #[(0, a0), (1, a1)]).run Tryd.prog w = .ok (.slice (some ⟨w.heap.size, 0, none⟩) 2 2) (w.alloc (.cells [a0, a1].toArray 23 (0, 0))) := by
  (cases a0 <;> first | (cases h0; done) | skip) <;> (cases a1 <;> first | (cases h1; done) | skip) <;> (intro w; kernel_rfl)
theorem bs_sl_api_Part_3 (a0 : Value) (a1 : Value) (a2 : Value) (h0 : a0.oneCell' = true := by first | rfl | assumption) (h1 : a1.oneCell' = true := by first | rfl | assumption) (h2 : a2.oneCell' = true := by first | rfl | assumption) : ∀ w : World, (Instr.buildSlice 72 3 #[(0, a0), (1, a1), (2, a2)]).run Tryd.prog w = .ok (.slice (some ⟨w.heap.size, 0, none⟩) 3 3) (w.alloc (.cells [a0, a1, a2].toArray 23 (0, 0))) := by
  (cases a0 <;> first | (cases h0; done) | skip) <;> (cases a1 <;> first | (cases h1; done) | skip) <;> (cases a2 <;> first | (cases h2; done) | skip) <;> (intro w; kernel_rfl)
theorem bl_api_Part_01 (a0 : Value) (a1 : Value) (h0 : a0.oneCell' = true := by first | rfl | assumption) (h1 : a1.oneCell' = true := by first | rfl | assumption) : ∀ w, (Instr.build 47 #[(0, a0), (1, a1)]).run Tryd.prog w = .ok (.agg #[a0, a1, .string ⟨#[]⟩]) w := by
  (cases a0 <;> first | (cases h0; done) | skip) <;> (cases a1 <;> first | (cases h1; done) | skip) <;> (intro w; kernel_rfl)
theorem bl_api_Part_012 (a0 : Value) (a1 : Value) (a2 : Value) (h0 : a0.oneCell' = true := by first | rfl | assumption) (h1 : a1.oneCell' = true := by first | rfl | assumption) (h2 : a2.oneCell' = true := by first | rfl | assumption) : ∀ w, (Instr.build 47 #[(0, a0), (1, a1), (2, a2)]).run Tryd.prog w = .ok (.agg #[a0, a1, a2]) w := by
  (cases a0 <;> first | (cases h0; done) | skip) <;> (cases a1 <;> first | (cases h1; done) | skip) <;> (cases a2 <;> first | (cases h2; done) | skip) <;> (intro w; kernel_rfl)
theorem bs_string_1 (a0 : Value) (h0 : a0.oneCell' = true := by first | rfl | assumption) : ∀ w : World, (Instr.buildSlice 75 1 #[(0, a0)]).run Tryd.prog w = .ok (.slice (some ⟨w.heap.size, 0, none⟩) 1 1) (w.alloc (.cells [a0].toArray 9 (0, 0))) := by
  (cases a0 <;> first | (cases h0; done) | skip) <;> (intro w; kernel_rfl)
theorem bl_sealskinref03_Wide_0 (a0 : Value) (h0 : a0.oneCell' = true := by first | rfl | assumption) : ∀ w, (Instr.build 78 #[(0, a0)]).run Tryd.prog w = .ok (.agg #[a0, .slice none 0 0]) w := by
  (cases a0 <;> first | (cases h0; done) | skip) <;> (intro w; kernel_rfl)
theorem bs_bool_1 (a0 : Value) (h0 : a0.oneCell' = true := by first | rfl | assumption) : ∀ w : World, (Instr.buildSlice 76 1 #[(0, a0)]).run Tryd.prog w = .ok (.slice (some ⟨w.heap.size, 0, none⟩) 1 1) (w.alloc (.cells [a0].toArray 4 (0, 0))) := by
  (cases a0 <;> first | (cases h0; done) | skip) <;> (intro w; kernel_rfl)
theorem bl_sealskinref03_Wide_01 (a0 : Value) (a1 : Value) (h0 : a0.oneCell' = true := by first | rfl | assumption) (h1 : a1.oneCell' = true := by first | rfl | assumption) : ∀ w, (Instr.build 78 #[(0, a0), (1, a1)]).run Tryd.prog w = .ok (.agg #[a0, a1]) w := by
  (cases a0 <;> first | (cases h0; done) | skip) <;> (cases a1 <;> first | (cases h1; done) | skip) <;> (intro w; kernel_rfl)
theorem bl_edit_walk_0 (a0 : Value) (h0 : a0.oneCell' = true := by first | rfl | assumption) : ∀ w, (Instr.build 96 #[(0, a0)]).run Tryd.prog w = .ok (.agg #[a0, .slice none 0 0]) w := by
  (cases a0 <;> first | (cases h0; done) | skip) <;> (intro w; kernel_rfl)
theorem bl_utf8_acceptRange_01 (a0 : Value) (a1 : Value) (h0 : a0.oneCell' = true := by first | rfl | assumption) (h1 : a1.oneCell' = true := by first | rfl | assumption) : ∀ w, (Instr.build 90 #[(0, a0), (1, a1)]).run Tryd.prog w = .ok (.agg #[a0, a1]) w := by
  (cases a0 <;> first | (cases h0; done) | skip) <;> (cases a1 <;> first | (cases h1; done) | skip) <;> (intro w; kernel_rfl)
end Go.SK
