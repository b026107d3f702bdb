/- Facts on this translation's types and functions, printed by a program of this session. -/
import Derived.Test.YtnleenjmnndphaaDoorMA
import Derived.Test.YtnleenjmnndphaaDoorProg
import Derived.KernelRfl
set_option maxRecDepth 100000
namespace Go.SK
open Go Go.Proofs
theorem mo : Tryd.prog.follows .mixedOrders = true := by kernel_rfl
theorem ts_int64 : TScal Tryd.prog 2 := ⟨fun w => by kernel_rfl, fun w => by kernel_rfl⟩
theorem tz_int64 : TZero Tryd.prog 2 (.int .i64 0) := fun w => by kernel_rfl
theorem un_int64 : Tryd.prog.underlying 2 = some (.int .i64) := Tryd.underlying2
theorem ts_int : TScal Tryd.prog 3 := ⟨fun w => by kernel_rfl, fun w => by kernel_rfl⟩
theorem tz_int : TZero Tryd.prog 3 (.int .i64 0) := fun w => by kernel_rfl
theorem un_int : Tryd.prog.underlying 3 = some (.int .i64) := Tryd.underlying3
theorem ts_bool : TScal Tryd.prog 4 := ⟨fun w => by kernel_rfl, fun w => by kernel_rfl⟩
theorem tz_bool : TZero Tryd.prog 4 (.bool false) := fun w => by kernel_rfl
theorem un_bool : Tryd.prog.underlying 4 = some .bool := Tryd.underlying4
theorem ts_uint8 : TScal Tryd.prog 5 := ⟨fun w => by kernel_rfl, fun w => by kernel_rfl⟩
theorem tz_uint8 : TZero Tryd.prog 5 (.int .u8 0) := fun w => by kernel_rfl
theorem un_uint8 : Tryd.prog.underlying 5 = some (.int .u8) := Tryd.underlying5
theorem ts_string : TScal Tryd.prog 9 := ⟨fun w => by kernel_rfl, fun w => by kernel_rfl⟩
theorem tz_string : TZero Tryd.prog 9 (.string ⟨#[]⟩) := fun w => by kernel_rfl
theorem un_string : Tryd.prog.underlying 9 = some .string := Tryd.underlying9
theorem ts_uintptr : TScal Tryd.prog 12 := ⟨fun w => by kernel_rfl, fun w => by kernel_rfl⟩
theorem tz_uintptr : TZero Tryd.prog 12 (.int .u64 0) := fun w => by kernel_rfl
theorem un_uintptr : Tryd.prog.underlying 12 = some (.int .u64) := Tryd.underlying12
theorem ts_int32 : TScal Tryd.prog 21 := ⟨fun w => by kernel_rfl, fun w => by kernel_rfl⟩
theorem tz_int32 : TZero Tryd.prog 21 (.int .i32 0) := fun w => by kernel_rfl
theorem un_int32 : Tryd.prog.underlying 21 = some (.int .i32) := Tryd.underlying21
theorem ts_sl_api_Part : TScal Tryd.prog 24 := ⟨fun w => by kernel_rfl, fun w => by kernel_rfl⟩
theorem tz_sl_api_Part : TZero Tryd.prog 24 (.slice none 0 0) := fun w => by kernel_rfl
theorem un_sl_api_Part : Tryd.prog.underlying 24 = some (.slice 36) := Tryd.underlying24
theorem tsl_api_Part : TSlice Tryd.prog 24 36 3 32 (.agg #[.int .i64 0, .int .i64 0, .string ⟨#[]⟩]) := ⟨Tryd.underlying24, by kernel_rfl, rfl⟩
theorem ts_api_Errno : TScal Tryd.prog 25 := ⟨fun w => by kernel_rfl, fun w => by kernel_rfl⟩
theorem tz_api_Errno : TZero Tryd.prog 25 (.int .i64 0) := fun w => by kernel_rfl
theorem un_api_Errno : Tryd.prog.underlying 25 = some (.int .i64) := Tryd.underlying25
theorem tst_api_Part : TStruct Tryd.prog 36 3 := ⟨fun w => by kernel_rfl, fun w => by kernel_rfl⟩
theorem fld_api_Part_Kind : TField Tryd.prog 36 0 0 := fun ad w => by kernel_rfl
theorem fld_api_Part_N : TField Tryd.prog 36 1 1 := fun ad w => by kernel_rfl
theorem fld_api_Part_Text : TField Tryd.prog 36 2 2 := fun ad w => by kernel_rfl
theorem tz_api_Part : TZero Tryd.prog 36 (.agg #[.int .i64 0, .int .i64 0, .string ⟨#[]⟩]) := fun w => by kernel_rfl
theorem ts_uint : TScal Tryd.prog 40 := ⟨fun w => by kernel_rfl, fun w => by kernel_rfl⟩
theorem tz_uint : TZero Tryd.prog 40 (.int .u64 0) := fun w => by kernel_rfl
theorem un_uint : Tryd.prog.underlying 40 = some (.int .u64) := Tryd.underlying40
theorem ts_sl_sealskinlaw17_Do : TScal Tryd.prog 47 := ⟨fun w => by kernel_rfl, fun w => by kernel_rfl⟩
theorem tz_sl_sealskinlaw17_Do : TZero Tryd.prog 47 (.slice none 0 0) := fun w => by kernel_rfl
theorem un_sl_sealskinlaw17_Do : Tryd.prog.underlying 47 = some (.slice 50) := Tryd.underlying47
theorem tsl_sealskinlaw17_Do : TSlice Tryd.prog 47 50 3 40 (.agg #[.int .i64 0, .int .i64 0, .slice none 0 0]) := ⟨Tryd.underlying47, by kernel_rfl, rfl⟩
theorem tst_sealskinlaw17_Do : TStruct Tryd.prog 50 3 := ⟨fun w => by kernel_rfl, fun w => by kernel_rfl⟩
theorem fld_sealskinlaw17_Do_Op : TField Tryd.prog 50 0 0 := fun ad w => by kernel_rfl
theorem fld_sealskinlaw17_Do_N : TField Tryd.prog 50 1 1 := fun ad w => by kernel_rfl
theorem fld_sealskinlaw17_Do_E : TField Tryd.prog 50 2 2 := fun ad w => by kernel_rfl
theorem tz_sealskinlaw17_Do : TZero Tryd.prog 50 (.agg #[.int .i64 0, .int .i64 0, .slice none 0 0]) := fun w => by kernel_rfl
theorem ts_p_undo_History : TScal Tryd.prog 52 := ⟨fun w => by kernel_rfl, fun w => by kernel_rfl⟩
theorem tz_p_undo_History : TZero Tryd.prog 52 (.pointer none) := fun w => by kernel_rfl
theorem ts_sl_string : TScal Tryd.prog 63 := ⟨fun w => by kernel_rfl, fun w => by kernel_rfl⟩
theorem tz_sl_string : TZero Tryd.prog 63 (.slice none 0 0) := fun w => by kernel_rfl
theorem un_sl_string : Tryd.prog.underlying 63 = some (.slice 9) := Tryd.underlying63
theorem tsl_string : TSlice Tryd.prog 63 9 1 16 (.string ⟨#[]⟩) := ⟨Tryd.underlying63, by kernel_rfl, rfl⟩
theorem ts_p_sealskinref17_History : TScal Tryd.prog 68 := ⟨fun w => by kernel_rfl, fun w => by kernel_rfl⟩
theorem tz_p_sealskinref17_History : TZero Tryd.prog 68 (.pointer none) := fun w => by kernel_rfl
theorem ts_sl_sl_api_Part : TScal Tryd.prog 69 := ⟨fun w => by kernel_rfl, fun w => by kernel_rfl⟩
theorem tz_sl_sl_api_Part : TZero Tryd.prog 69 (.slice none 0 0) := fun w => by kernel_rfl
theorem un_sl_sl_api_Part : Tryd.prog.underlying 69 = some (.slice 24) := Tryd.underlying69
theorem tsl_sl_api_Part : TSlice Tryd.prog 69 24 1 24 (.slice none 0 0) := ⟨Tryd.underlying69, by kernel_rfl, rfl⟩
theorem tst_sealskinref17_History : TStruct Tryd.prog 71 3 := ⟨fun w => by kernel_rfl, fun w => by kernel_rfl⟩
theorem fld_sealskinref17_History_Back : TField Tryd.prog 71 0 0 := fun ad w => by kernel_rfl
theorem fld_sealskinref17_History_Again : TField Tryd.prog 71 1 1 := fun ad w => by kernel_rfl
theorem fld_sealskinref17_History_N : TField Tryd.prog 71 2 2 := fun ad w => by kernel_rfl
theorem tz_sealskinref17_History : TZero Tryd.prog 71 (.agg #[.slice none 0 0, .slice none 0 0, .int .i64 0]) := fun w => by kernel_rfl
theorem ts_undo_pile : TScal Tryd.prog 76 := ⟨fun w => by kernel_rfl, fun w => by kernel_rfl⟩
theorem tz_undo_pile : TZero Tryd.prog 76 (.slice none 0 0) := fun w => by kernel_rfl
theorem un_undo_pile : Tryd.prog.underlying 76 = some (.slice 24) := Tryd.underlying76
theorem tsl_o_pile : TSlice Tryd.prog 76 24 1 24 (.slice none 0 0) := ⟨Tryd.underlying76, by kernel_rfl, rfl⟩
theorem tst_undo_History : TStruct Tryd.prog 78 4 := ⟨fun w => by kernel_rfl, fun w => by kernel_rfl⟩
theorem fld_undo_History_back : TField Tryd.prog 78 0 0 := fun ad w => by kernel_rfl
theorem fld_undo_History_again : TField Tryd.prog 78 1 1 := fun ad w => by kernel_rfl
theorem fld_undo_History_n : TField Tryd.prog 78 2 2 := fun ad w => by kernel_rfl
theorem fld_undo_History_made : TField Tryd.prog 78 3 3 := fun ad w => by kernel_rfl
theorem tz_undo_History : TZero Tryd.prog 78 (.agg #[.slice none 0 0, .slice none 0 0, .int .i64 0, .bool false]) := fun w => by kernel_rfl
theorem ts_sl_p_undo_History : TScal Tryd.prog 79 := ⟨fun w => by kernel_rfl, fun w => by kernel_rfl⟩
theorem tz_sl_p_undo_History : TZero Tryd.prog 79 (.slice none 0 0) := fun w => by kernel_rfl
theorem un_sl_p_undo_History : Tryd.prog.underlying 79 = some (.slice 52) := Tryd.underlying79
theorem tsl_p_undo_History : TSlice Tryd.prog 79 52 1 8 (.pointer none) := ⟨Tryd.underlying79, by kernel_rfl, rfl⟩
theorem ts_sl_int32 : TScal Tryd.prog 84 := ⟨fun w => by kernel_rfl, fun w => by kernel_rfl⟩
theorem tz_sl_int32 : TZero Tryd.prog 84 (.slice none 0 0) := fun w => by kernel_rfl
theorem un_sl_int32 : Tryd.prog.underlying 84 = some (.slice 21) := Tryd.underlying84
theorem tsl_int32 : TSlice Tryd.prog 84 21 1 4 (.int .i32 0) := ⟨Tryd.underlying84, by kernel_rfl, rfl⟩
theorem ts_p_diff_table : TScal Tryd.prog 88 := ⟨fun w => by kernel_rfl, fun w => by kernel_rfl⟩
theorem tz_p_diff_table : TZero Tryd.prog 88 (.pointer none) := fun w => by kernel_rfl
theorem ts_uint16 : TScal Tryd.prog 90 := ⟨fun w => by kernel_rfl, fun w => by kernel_rfl⟩
theorem tz_uint16 : TZero Tryd.prog 90 (.int .u16 0) := fun w => by kernel_rfl
theorem un_uint16 : Tryd.prog.underlying 90 = some (.int .u16) := Tryd.underlying90
theorem ts_sl_sl_int : TScal Tryd.prog 95 := ⟨fun w => by kernel_rfl, fun w => by kernel_rfl⟩
theorem tz_sl_sl_int : TZero Tryd.prog 95 (.slice none 0 0) := fun w => by kernel_rfl
theorem un_sl_sl_int : Tryd.prog.underlying 95 = some (.slice 97) := Tryd.underlying95
theorem tsl_sl_int : TSlice Tryd.prog 95 97 1 24 (.slice none 0 0) := ⟨Tryd.underlying95, by kernel_rfl, rfl⟩
theorem ts_sl_int : TScal Tryd.prog 97 := ⟨fun w => by kernel_rfl, fun w => by kernel_rfl⟩
theorem tz_sl_int : TZero Tryd.prog 97 (.slice none 0 0) := fun w => by kernel_rfl
theorem un_sl_int : Tryd.prog.underlying 97 = some (.slice 3) := Tryd.underlying97
theorem tsl_int : TSlice Tryd.prog 97 3 1 8 (.int .i64 0) := ⟨Tryd.underlying97, by kernel_rfl, rfl⟩
theorem ts_sl_uint8 : TScal Tryd.prog 99 := ⟨fun w => by kernel_rfl, fun w => by kernel_rfl⟩
theorem tz_sl_uint8 : TZero Tryd.prog 99 (.slice none 0 0) := fun w => by kernel_rfl
theorem un_sl_uint8 : Tryd.prog.underlying 99 = some (.slice 5) := Tryd.underlying99
theorem tsl_uint8 : TSlice Tryd.prog 99 5 1 1 (.int .u8 0) := ⟨Tryd.underlying99, by kernel_rfl, rfl⟩
theorem ts_sl_diff_stretch : TScal Tryd.prog 102 := ⟨fun w => by kernel_rfl, fun w => by kernel_rfl⟩
theorem tz_sl_diff_stretch : TZero Tryd.prog 102 (.slice none 0 0) := fun w => by kernel_rfl
theorem un_sl_diff_stretch : Tryd.prog.underlying 102 = some (.slice 105) := Tryd.underlying102
theorem tsl_diff_stretch : TSlice Tryd.prog 102 105 3 24 (.agg #[.int .i64 0, .int .i64 0, .int .i64 0]) := ⟨Tryd.underlying102, by kernel_rfl, rfl⟩
theorem tst_diff_stretch : TStruct Tryd.prog 105 3 := ⟨fun w => by kernel_rfl, fun w => by kernel_rfl⟩
theorem fld_diff_stretch_at : TField Tryd.prog 105 0 0 := fun ad w => by kernel_rfl
theorem fld_diff_stretch_drop : TField Tryd.prog 105 1 1 := fun ad w => by kernel_rfl
theorem fld_diff_stretch_put : TField Tryd.prog 105 2 2 := fun ad w => by kernel_rfl
theorem tz_diff_stretch : TZero Tryd.prog 105 (.agg #[.int .i64 0, .int .i64 0, .int .i64 0]) := fun w => by kernel_rfl
theorem tst_ar16_utf8_acceptRange : TStruct Tryd.prog 110 32 := ⟨fun w => by kernel_rfl, fun w => by kernel_rfl⟩
theorem tz_ar16_utf8_acceptRange : TZero Tryd.prog 110 (.agg #[.int .u8 0, .int .u8 0, .int .u8 0, .int .u8 0, .int .u8 0, .int .u8 0, .int .u8 0, .int .u8 0, .int .u8 0, .int .u8 0, .int .u8 0, .int .u8 0, .int .u8 0, .int .u8 0, .int .u8 0, .int .u8 0, .int .u8 0, .int .u8 0, .int .u8 0, .int .u8 0, .int .u8 0, .int .u8 0, .int .u8 0, .int .u8 0, .int .u8 0, .int .u8 0, .int .u8 0, .int .u8 0, .int .u8 0, .int .u8 0, .int .u8 0, .int .u8 0]) := fun w => by kernel_rfl
theorem tst_edit_maker : TStruct Tryd.prog 118 1 := ⟨fun w => by kernel_rfl, fun w => by kernel_rfl⟩
theorem fld_edit_maker_out : TField Tryd.prog 118 0 0 := fun ad w => by kernel_rfl
theorem tz_edit_maker : TZero Tryd.prog 118 (.agg #[.slice none 0 0]) := fun w => by kernel_rfl
theorem ts_p_edit_walk : TScal Tryd.prog 126 := ⟨fun w => by kernel_rfl, fun w => by kernel_rfl⟩
theorem tz_p_edit_walk : TZero Tryd.prog 126 (.pointer none) := fun w => by kernel_rfl
theorem ts_sl_uint16 : TScal Tryd.prog 137 := ⟨fun w => by kernel_rfl, fun w => by kernel_rfl⟩
theorem tz_sl_uint16 : TZero Tryd.prog 137 (.slice none 0 0) := fun w => by kernel_rfl
theorem un_sl_uint16 : Tryd.prog.underlying 137 = some (.slice 90) := Tryd.underlying137
theorem tsl_uint16 : TSlice Tryd.prog 137 90 1 2 (.int .u16 0) := ⟨Tryd.underlying137, by kernel_rfl, rfl⟩
theorem tst_diff_table : TStruct Tryd.prog 139 2 := ⟨fun w => by kernel_rfl, fun w => by kernel_rfl⟩
theorem fld_diff_table_l : TField Tryd.prog 139 0 0 := fun ad w => by kernel_rfl
theorem fld_diff_table_wide : TField Tryd.prog 139 1 1 := fun ad w => by kernel_rfl
theorem tz_diff_table : TZero Tryd.prog 139 (.agg #[.slice none 0 0, .int .i64 0]) := fun w => by kernel_rfl
theorem ts_uint64 : TScal Tryd.prog 141 := ⟨fun w => by kernel_rfl, fun w => by kernel_rfl⟩
theorem tz_uint64 : TZero Tryd.prog 141 (.int .u64 0) := fun w => by kernel_rfl
theorem un_uint64 : Tryd.prog.underlying 141 = some (.int .u64) := Tryd.underlying141
theorem ts_p_edit_maker : TScal Tryd.prog 145 := ⟨fun w => by kernel_rfl, fun w => by kernel_rfl⟩
theorem tz_p_edit_maker : TZero Tryd.prog 145 (.pointer none) := fun w => by kernel_rfl
theorem tst_edit_walk : TStruct Tryd.prog 148 2 := ⟨fun w => by kernel_rfl, fun w => by kernel_rfl⟩
theorem fld_edit_walk_l : TField Tryd.prog 148 0 0 := fun ad w => by kernel_rfl
theorem fld_edit_walk_text : TField Tryd.prog 148 1 1 := fun ad w => by kernel_rfl
theorem tz_edit_walk : TZero Tryd.prog 148 (.agg #[.slice none 0 0, .slice none 0 0]) := fun w => by kernel_rfl
theorem ts_sl_bool : TScal Tryd.prog 149 := ⟨fun w => by kernel_rfl, fun w => by kernel_rfl⟩
theorem tz_sl_bool : TZero Tryd.prog 149 (.slice none 0 0) := fun w => by kernel_rfl
theorem un_sl_bool : Tryd.prog.underlying 149 = some (.slice 4) := Tryd.underlying149
theorem tsl_bool : TSlice Tryd.prog 149 4 1 1 (.bool false) := ⟨Tryd.underlying149, by kernel_rfl, rfl⟩
theorem tst_sealskinref03_Wide : TStruct Tryd.prog 151 2 := ⟨fun w => by kernel_rfl, fun w => by kernel_rfl⟩
theorem fld_sealskinref03_Wide_Puts : TField Tryd.prog 151 0 0 := fun ad w => by kernel_rfl
theorem fld_sealskinref03_Wide_Drop : TField Tryd.prog 151 1 1 := fun ad w => by kernel_rfl
theorem tz_sealskinref03_Wide : TZero Tryd.prog 151 (.agg #[.slice none 0 0, .slice none 0 0]) := fun w => by kernel_rfl
theorem ts_uint32 : TScal Tryd.prog 165 := ⟨fun w => by kernel_rfl, fun w => by kernel_rfl⟩
theorem tz_uint32 : TZero Tryd.prog 165 (.int .u32 0) := fun w => by kernel_rfl
theorem un_uint32 : Tryd.prog.underlying 165 = some (.int .u32) := Tryd.underlying165
theorem ts_p_uint8 : TScal Tryd.prog 169 := ⟨fun w => by kernel_rfl, fun w => by kernel_rfl⟩
theorem tz_p_uint8 : TZero Tryd.prog 169 (.pointer none) := fun w => by kernel_rfl
theorem en_3 : Enters Tryd.prog 3 := enters_of Tryd.func3 (by kernel_rfl) (by kernel_rfl)
theorem en_4 : Enters Tryd.prog 4 := enters_of Tryd.func4 (by kernel_rfl) (by kernel_rfl)
theorem en_5 : Enters Tryd.prog 5 := enters_of Tryd.func5 (by kernel_rfl) (by kernel_rfl)
theorem en_6 : Enters Tryd.prog 6 := enters_of Tryd.func6 (by kernel_rfl) (by kernel_rfl)
theorem en_7 : Enters Tryd.prog 7 := enters_of Tryd.func7 (by kernel_rfl) (by kernel_rfl)
theorem en_8 : Enters Tryd.prog 8 := enters_of Tryd.func8 (by kernel_rfl) (by kernel_rfl)
theorem en_9 : Enters Tryd.prog 9 := enters_of Tryd.func9 (by kernel_rfl) (by kernel_rfl)
theorem en_10 : Enters Tryd.prog 10 := enters_of Tryd.func10 (by kernel_rfl) (by kernel_rfl)
theorem en_11 : Enters Tryd.prog 11 := enters_of Tryd.func11 (by kernel_rfl) (by kernel_rfl)
theorem en_12 : Enters Tryd.prog 12 := enters_of Tryd.func12 (by kernel_rfl) (by kernel_rfl)
theorem en_13 : Enters Tryd.prog 13 := enters_of Tryd.func13 (by kernel_rfl) (by kernel_rfl)
theorem en_14 : Enters Tryd.prog 14 := enters_of Tryd.func14 (by kernel_rfl) (by kernel_rfl)
theorem en_15 : Enters Tryd.prog 15 := enters_of Tryd.func15 (by kernel_rfl) (by kernel_rfl)
theorem en_16 : Enters Tryd.prog 16 := enters_of Tryd.func16 (by kernel_rfl) (by kernel_rfl)
theorem en_17 : Enters Tryd.prog 17 := enters_of Tryd.func17 (by kernel_rfl) (by kernel_rfl)
theorem en_18 : Enters Tryd.prog 18 := enters_of Tryd.func18 (by kernel_rfl) (by kernel_rfl)
theorem en_19 : Enters Tryd.prog 19 := enters_of Tryd.func19 (by kernel_rfl) (by kernel_rfl)
theorem en_20 : Enters Tryd.prog 20 := enters_of Tryd.func20 (by kernel_rfl) (by kernel_rfl)
theorem en_21 : Enters Tryd.prog 21 := enters_of Tryd.func21 (by kernel_rfl) (by kernel_rfl)
theorem en_22 : Enters Tryd.prog 22 := enters_of Tryd.func22 (by kernel_rfl) (by kernel_rfl)
theorem en_23 : Enters Tryd.prog 23 := enters_of Tryd.func23 (by kernel_rfl) (by kernel_rfl)
theorem en_24 : Enters Tryd.prog 24 := enters_of Tryd.func24 (by kernel_rfl) (by kernel_rfl)
theorem en_25 : Enters Tryd.prog 25 := enters_of Tryd.func25 (by kernel_rfl) (by kernel_rfl)
theorem en_26 : Enters Tryd.prog 26 := enters_of Tryd.func26 (by kernel_rfl) (by kernel_rfl)
theorem en_27 : Enters Tryd.prog 27 := enters_of Tryd.func27 (by kernel_rfl) (by kernel_rfl)
theorem en_28 : Enters Tryd.prog 28 := enters_of Tryd.func28 (by kernel_rfl) (by kernel_rfl)
theorem en_29 : Enters Tryd.prog 29 := enters_of Tryd.func29 (by kernel_rfl) (by kernel_rfl)
theorem en_30 : Enters Tryd.prog 30 := enters_of Tryd.func30 (by kernel_rfl) (by kernel_rfl)
theorem en_31 : Enters Tryd.prog 31 := enters_of Tryd.func31 (by kernel_rfl) (by kernel_rfl)
theorem en_32 : Enters Tryd.prog 32 := enters_of Tryd.func32 (by kernel_rfl) (by kernel_rfl)
theorem en_33 : Enters Tryd.prog 33 := enters_of Tryd.func33 (by kernel_rfl) (by kernel_rfl)
theorem en_34 : Enters Tryd.prog 34 := enters_of Tryd.func34 (by kernel_rfl) (by kernel_rfl)
theorem en_35 : Enters Tryd.prog 35 := enters_of Tryd.func35 (by kernel_rfl) (by kernel_rfl)
theorem en_36 : Enters Tryd.prog 36 := enters_of Tryd.func36 (by kernel_rfl) (by kernel_rfl)
theorem en_37 : Enters Tryd.prog 37 := enters_of Tryd.func37 (by kernel_rfl) (by kernel_rfl)
theorem en_38 : Enters Tryd.prog 38 := enters_of Tryd.func38 (by kernel_rfl) (by kernel_rfl)
theorem en_39 : Enters Tryd.prog 39 := enters_of Tryd.func39 (by kernel_rfl) (by kernel_rfl)
theorem en_40 : Enters Tryd.prog 40 := enters_of Tryd.func40 (by kernel_rfl) (by kernel_rfl)
theorem en_41 : Enters Tryd.prog 41 := enters_of Tryd.func41 (by kernel_rfl) (by kernel_rfl)
theorem en_42 : Enters Tryd.prog 42 := enters_of Tryd.func42 (by kernel_rfl) (by kernel_rfl)
theorem en_43 : Enters Tryd.prog 43 := enters_of Tryd.func43 (by kernel_rfl) (by kernel_rfl)
theorem en_44 : Enters Tryd.prog 44 := enters_of Tryd.func44 (by kernel_rfl) (by kernel_rfl)
theorem en_45 : Enters Tryd.prog 45 := enters_of Tryd.func45 (by kernel_rfl) (by kernel_rfl)
theorem en_46 : Enters Tryd.prog 46 := enters_of Tryd.func46 (by kernel_rfl) (by kernel_rfl)
theorem en_47 : Enters Tryd.prog 47 := enters_of Tryd.func47 (by kernel_rfl) (by kernel_rfl)
theorem en_48 : Enters Tryd.prog 48 := enters_of Tryd.func48 (by kernel_rfl) (by kernel_rfl)
theorem en_49 : Enters Tryd.prog 49 := enters_of Tryd.func49 (by kernel_rfl) (by kernel_rfl)
theorem en_50 : Enters Tryd.prog 50 := enters_of Tryd.func50 (by kernel_rfl) (by kernel_rfl)
theorem en_51 : Enters Tryd.prog 51 := enters_of Tryd.func51 (by kernel_rfl) (by kernel_rfl)
theorem en_52 : Enters Tryd.prog 52 := enters_of Tryd.func52 (by kernel_rfl) (by kernel_rfl)
theorem en_53 : Enters Tryd.prog 53 := enters_of Tryd.func53 (by kernel_rfl) (by kernel_rfl)
theorem en_54 : Enters Tryd.prog 54 := enters_of Tryd.func54 (by kernel_rfl) (by kernel_rfl)
theorem en_55 : Enters Tryd.prog 55 := enters_of Tryd.func55 (by kernel_rfl) (by kernel_rfl)
theorem en_56 : Enters Tryd.prog 56 := enters_of Tryd.func56 (by kernel_rfl) (by kernel_rfl)
theorem en_57 : Enters Tryd.prog 57 := enters_of Tryd.func57 (by kernel_rfl) (by kernel_rfl)
theorem en_58 : Enters Tryd.prog 58 := enters_of Tryd.func58 (by kernel_rfl) (by kernel_rfl)
theorem en_59 : Enters Tryd.prog 59 := enters_of Tryd.func59 (by kernel_rfl) (by kernel_rfl)
theorem en_60 : Enters Tryd.prog 60 := enters_of Tryd.func60 (by kernel_rfl) (by kernel_rfl)
theorem en_61 : Enters Tryd.prog 61 := enters_of Tryd.func61 (by kernel_rfl) (by kernel_rfl)
theorem en_62 : Enters Tryd.prog 62 := enters_of Tryd.func62 (by kernel_rfl) (by kernel_rfl)
theorem en_63 : Enters Tryd.prog 63 := enters_of Tryd.func63 (by kernel_rfl) (by kernel_rfl)
theorem en_64 : Enters Tryd.prog 64 := enters_of Tryd.func64 (by kernel_rfl) (by kernel_rfl)
theorem en_65 : Enters Tryd.prog 65 := enters_of Tryd.func65 (by kernel_rfl) (by kernel_rfl)
theorem en_66 : Enters Tryd.prog 66 := enters_of Tryd.func66 (by kernel_rfl) (by kernel_rfl)
theorem en_67 : Enters Tryd.prog 67 := enters_of Tryd.func67 (by kernel_rfl) (by kernel_rfl)
theorem en_68 : Enters Tryd.prog 68 := enters_of Tryd.func68 (by kernel_rfl) (by kernel_rfl)
theorem en_69 : Enters Tryd.prog 69 := enters_of Tryd.func69 (by kernel_rfl) (by kernel_rfl)
theorem en_70 : Enters Tryd.prog 70 := enters_of Tryd.func70 (by kernel_rfl) (by kernel_rfl)
theorem en_71 : Enters Tryd.prog 71 := enters_of Tryd.func71 (by kernel_rfl) (by kernel_rfl)
theorem en_72 : Enters Tryd.prog 72 := enters_of Tryd.func72 (by kernel_rfl) (by kernel_rfl)
theorem en_73 : Enters Tryd.prog 73 := enters_of Tryd.func73 (by kernel_rfl) (by kernel_rfl)
theorem en_74 : Enters Tryd.prog 74 := enters_of Tryd.func74 (by kernel_rfl) (by kernel_rfl)
theorem en_75 : Enters Tryd.prog 75 := enters_of Tryd.func75 (by kernel_rfl) (by kernel_rfl)
theorem en_76 : Enters Tryd.prog 76 := enters_of Tryd.func76 (by kernel_rfl) (by kernel_rfl)
theorem en_77 : Enters Tryd.prog 77 := enters_of Tryd.func77 (by kernel_rfl) (by kernel_rfl)
theorem en_78 : Enters Tryd.prog 78 := enters_of Tryd.func78 (by kernel_rfl) (by kernel_rfl)
theorem en_79 : Enters Tryd.prog 79 := enters_of Tryd.func79 (by kernel_rfl) (by kernel_rfl)
theorem en_80 : Enters Tryd.prog 80 := enters_of Tryd.func80 (by kernel_rfl) (by kernel_rfl)
theorem en_81 : Enters Tryd.prog 81 := enters_of Tryd.func81 (by kernel_rfl) (by kernel_rfl)
theorem en_82 : Enters Tryd.prog 82 := enters_of Tryd.func82 (by kernel_rfl) (by kernel_rfl)
theorem en_83 : Enters Tryd.prog 83 := enters_of Tryd.func83 (by kernel_rfl) (by kernel_rfl)
theorem en_84 : Enters Tryd.prog 84 := enters_of Tryd.func84 (by kernel_rfl) (by kernel_rfl)
theorem en_85 : Enters Tryd.prog 85 := enters_of Tryd.func85 (by kernel_rfl) (by kernel_rfl)
theorem en_86 : Enters Tryd.prog 86 := enters_of Tryd.func86 (by kernel_rfl) (by kernel_rfl)
theorem en_87 : Enters Tryd.prog 87 := enters_of Tryd.func87 (by kernel_rfl) (by kernel_rfl)
theorem en_88 : Enters Tryd.prog 88 := enters_of Tryd.func88 (by kernel_rfl) (by kernel_rfl)
theorem en_89 : Enters Tryd.prog 89 := enters_of Tryd.func89 (by kernel_rfl) (by kernel_rfl)
theorem en_90 : Enters Tryd.prog 90 := enters_of Tryd.func90 (by kernel_rfl) (by kernel_rfl)
theorem en_91 : Enters Tryd.prog 91 := enters_of Tryd.func91 (by kernel_rfl) (by kernel_rfl)
theorem en_92 : Enters Tryd.prog 92 := enters_of Tryd.func92 (by kernel_rfl) (by kernel_rfl)
theorem en_93 : Enters Tryd.prog 93 := enters_of Tryd.func93 (by kernel_rfl) (by kernel_rfl)
theorem en_94 : Enters Tryd.prog 94 := enters_of Tryd.func94 (by kernel_rfl) (by kernel_rfl)
theorem en_95 : Enters Tryd.prog 95 := enters_of Tryd.func95 (by kernel_rfl) (by kernel_rfl)
theorem en_96 : Enters Tryd.prog 96 := enters_of Tryd.func96 (by kernel_rfl) (by kernel_rfl)
theorem en_97 : Enters Tryd.prog 97 := enters_of Tryd.func97 (by kernel_rfl) (by kernel_rfl)
theorem en_98 : Enters Tryd.prog 98 := enters_of Tryd.func98 (by kernel_rfl) (by kernel_rfl)
theorem en_99 : Enters Tryd.prog 99 := enters_of Tryd.func99 (by kernel_rfl) (by kernel_rfl)
theorem en_100 : Enters Tryd.prog 100 := enters_of Tryd.func100 (by kernel_rfl) (by kernel_rfl)
theorem en_101 : Enters Tryd.prog 101 := enters_of Tryd.func101 (by kernel_rfl) (by kernel_rfl)
theorem en_102 : Enters Tryd.prog 102 := enters_of Tryd.func102 (by kernel_rfl) (by kernel_rfl)
theorem en_103 : Enters Tryd.prog 103 := enters_of Tryd.func103 (by kernel_rfl) (by kernel_rfl)
theorem en_104 : Enters Tryd.prog 104 := enters_of Tryd.func104 (by kernel_rfl) (by kernel_rfl)
theorem en_105 : Enters Tryd.prog 105 := enters_of Tryd.func105 (by kernel_rfl) (by kernel_rfl)
theorem en_106 : Enters Tryd.prog 106 := enters_of Tryd.func106 (by kernel_rfl) (by kernel_rfl)
theorem en_107 : Enters Tryd.prog 107 := enters_of Tryd.func107 (by kernel_rfl) (by kernel_rfl)
theorem en_108 : Enters Tryd.prog 108 := enters_of Tryd.func108 (by kernel_rfl) (by kernel_rfl)
theorem bs_string_2 (a0 : Value) (a1 : Value) (h0 : a0.oneCell' = true := by first | rfl | assumption) (h1 : a1.oneCell' = true := by first | rfl | assumption) : ∀ w : World, (Instr.buildSlice 63 2 #[(0, a0), (1, a1)]).run Tryd.prog w = .ok (.slice (some ⟨w.heap.size, 0, none⟩) 2 2) (w.alloc (.cells [a0, a1].toArray 9 (0, 0))) := by
  (cases a0 <;> first | (cases h0; done) | skip) <;> (cases a1 <;> first | (cases h1; done) | skip) <;> (intro w; kernel_rfl)
theorem bs_string_1 (a0 : Value) (h0 : a0.oneCell' = true := by first | rfl | assumption) : ∀ w : World, (Instr.buildSlice 63 1 #[(0, a0)]).run Tryd.prog w = .ok (.slice (some ⟨w.heap.size, 0, none⟩) 1 1) (w.alloc (.cells [a0].toArray 9 (0, 0))) := by
  (cases a0 <;> first | (cases h0; done) | skip) <;> (intro w; kernel_rfl)
theorem bs_string_3 (a0 : Value) (a1 : Value) (a2 : Value) (h0 : a0.oneCell' = true := by first | rfl | assumption) (h1 : a1.oneCell' = true := by first | rfl | assumption) (h2 : a2.oneCell' = true := by first | rfl | assumption) : ∀ w : World, (Instr.buildSlice 63 3 #[(0, a0), (1, a1), (2, a2)]).run Tryd.prog w = .ok (.slice (some ⟨w.heap.size, 0, none⟩) 3 3) (w.alloc (.cells [a0, a1, a2].toArray 9 (0, 0))) := by
  (cases a0 <;> first | (cases h0; done) | skip) <;> (cases a1 <;> first | (cases h1; done) | skip) <;> (cases a2 <;> first | (cases h2; done) | skip) <;> (intro w; kernel_rfl)
theorem bl_sealskinlaw17_Do_2 (a0 : Value) (h0 : a0.oneCell' = true := by first | rfl | assumption) : ∀ w, (Instr.build 50 #[(2, a0)]).run Tryd.prog w = .ok (.agg #[.int .i64 0, .int .i64 0, a0]) w := by
  (cases a0 <;> first | (cases h0; done) | skip) <;> (intro w; kernel_rfl)
theorem bl_sealskinref17_History_2 (a0 : Value) (h0 : a0.oneCell' = true := by first | rfl | assumption) : ∀ w, (Instr.build 71 #[(2, a0)]).run Tryd.prog w = .ok (.agg #[.slice none 0 0, .slice none 0 0, a0]) w := by
  (cases a0 <;> first | (cases h0; done) | skip) <;> (intro w; kernel_rfl)
theorem bl_undo_History_   : ∀ w, (Instr.build 78 #[]).run Tryd.prog w = .ok (.agg #[.slice none 0 0, .slice none 0 0, .int .i64 0, .bool false]) w := by
  (intro w; kernel_rfl)
theorem bs_p_undo_History_2 (a0 : Value) (a1 : Value) (h0 : a0.oneCell' = true := by first | rfl | assumption) (h1 : a1.oneCell' = true := by first | rfl | assumption) : ∀ w : World, (Instr.buildSlice 79 2 #[(0, a0), (1, a1)]).run Tryd.prog w = .ok (.slice (some ⟨w.heap.size, 0, none⟩) 2 2) (w.alloc (.cells [a0, a1].toArray 52 (0, 0))) := by
  (cases a0 <;> first | (cases h0; done) | skip) <;> (cases a1 <;> first | (cases h1; done) | skip) <;> (intro w; kernel_rfl)
theorem bl_api_Part_01 (a0 : Value) (a1 : Value) (h0 : a0.oneCell' = true := by first | rfl | assumption) (h1 : a1.oneCell' = true := by first | rfl | assumption) : ∀ w, (Instr.build 36 #[(0, a0), (1, a1)]).run Tryd.prog w = .ok (.agg #[a0, a1, .string ⟨#[]⟩]) w := by
  (cases a0 <;> first | (cases h0; done) | skip) <;> (cases a1 <;> first | (cases h1; done) | skip) <;> (intro w; kernel_rfl)
theorem bl_api_Part_012 (a0 : Value) (a1 : Value) (a2 : Value) (h0 : a0.oneCell' = true := by first | rfl | assumption) (h1 : a1.oneCell' = true := by first | rfl | assumption) (h2 : a2.oneCell' = true := by first | rfl | assumption) : ∀ w, (Instr.build 36 #[(0, a0), (1, a1), (2, a2)]).run Tryd.prog w = .ok (.agg #[a0, a1, a2]) w := by
  (cases a0 <;> first | (cases h0; done) | skip) <;> (cases a1 <;> first | (cases h1; done) | skip) <;> (cases a2 <;> first | (cases h2; done) | skip) <;> (intro w; kernel_rfl)
theorem bl_undo_History_23 (a0 : Value) (a1 : Value) (h0 : a0.oneCell' = true := by first | rfl | assumption) (h1 : a1.oneCell' = true := by first | rfl | assumption) : ∀ w, (Instr.build 78 #[(2, a0), (3, a1)]).run Tryd.prog w = .ok (.agg #[.slice none 0 0, .slice none 0 0, a0, a1]) w := by
  (cases a0 <;> first | (cases h0; done) | skip) <;> (cases a1 <;> first | (cases h1; done) | skip) <;> (intro w; kernel_rfl)
theorem bl_diff_table_01 (a0 : Value) (a1 : Value) (h0 : a0.oneCell' = true := by first | rfl | assumption) (h1 : a1.oneCell' = true := by first | rfl | assumption) : ∀ w, (Instr.build 139 #[(0, a0), (1, a1)]).run Tryd.prog w = .ok (.agg #[a0, a1]) w := by
  (cases a0 <;> first | (cases h0; done) | skip) <;> (cases a1 <;> first | (cases h1; done) | skip) <;> (intro w; kernel_rfl)
theorem bs_int32_1 (a0 : Value) (h0 : a0.oneCell' = true := by first | rfl | assumption) : ∀ w : World, (Instr.buildSlice 84 1 #[(0, a0)]).run Tryd.prog w = .ok (.slice (some ⟨w.heap.size, 0, none⟩) 1 1) (w.alloc (.cells [a0].toArray 21 (0, 0))) := by
  (cases a0 <;> first | (cases h0; done) | skip) <;> (intro w; kernel_rfl)
theorem bs_sl_int_1 (a0 : Value) (h0 : a0.oneCell' = true := by first | rfl | assumption) : ∀ w : World, (Instr.buildSlice 95 1 #[(0, a0)]).run Tryd.prog w = .ok (.slice (some ⟨w.heap.size, 0, none⟩) 1 1) (w.alloc (.cells [a0].toArray 97 (0, 0))) := by
  (cases a0 <;> first | (cases h0; done) | skip) <;> (intro w; kernel_rfl)
theorem bl_diff_stretch_02 (a0 : Value) (a1 : Value) (h0 : a0.oneCell' = true := by first | rfl | assumption) (h1 : a1.oneCell' = true := by first | rfl | assumption) : ∀ w, (Instr.build 105 #[(0, a0), (2, a1)]).run Tryd.prog w = .ok (.agg #[a0, .int .i64 0, a1]) w := by
  (cases a0 <;> first | (cases h0; done) | skip) <;> (cases a1 <;> first | (cases h1; done) | skip) <;> (intro w; kernel_rfl)
theorem bl_diff_stretch_01 (a0 : Value) (a1 : Value) (h0 : a0.oneCell' = true := by first | rfl | assumption) (h1 : a1.oneCell' = true := by first | rfl | assumption) : ∀ w, (Instr.build 105 #[(0, a0), (1, a1)]).run Tryd.prog w = .ok (.agg #[a0, a1, .int .i64 0]) w := by
  (cases a0 <;> first | (cases h0; done) | skip) <;> (cases a1 <;> first | (cases h1; done) | skip) <;> (intro w; kernel_rfl)
theorem bs_o_pile_1 (a0 : Value) (h0 : a0.oneCell' = true := by first | rfl | assumption) : ∀ w : World, (Instr.buildSlice 76 1 #[(0, a0)]).run Tryd.prog w = .ok (.slice (some ⟨w.heap.size, 0, none⟩) 1 1) (w.alloc (.cells [a0].toArray 24 (0, 0))) := by
  (cases a0 <;> first | (cases h0; done) | skip) <;> (intro w; kernel_rfl)
theorem bl_edit_walk_0 (a0 : Value) (h0 : a0.oneCell' = true := by first | rfl | assumption) : ∀ w, (Instr.build 148 #[(0, a0)]).run Tryd.prog w = .ok (.agg #[a0, .slice none 0 0]) w := by
  (cases a0 <;> first | (cases h0; done) | skip) <;> (intro w; kernel_rfl)
theorem bl_sealskinref03_Wide_0 (a0 : Value) (h0 : a0.oneCell' = true := by first | rfl | assumption) : ∀ w, (Instr.build 151 #[(0, a0)]).run Tryd.prog w = .ok (.agg #[a0, .slice none 0 0]) w := by
  (cases a0 <;> first | (cases h0; done) | skip) <;> (intro w; kernel_rfl)
theorem bs_bool_1 (a0 : Value) (h0 : a0.oneCell' = true := by first | rfl | assumption) : ∀ w : World, (Instr.buildSlice 149 1 #[(0, a0)]).run Tryd.prog w = .ok (.slice (some ⟨w.heap.size, 0, none⟩) 1 1) (w.alloc (.cells [a0].toArray 4 (0, 0))) := by
  (cases a0 <;> first | (cases h0; done) | skip) <;> (intro w; kernel_rfl)
theorem bs_sl_api_Part_1 (a0 : Value) (h0 : a0.oneCell' = true := by first | rfl | assumption) : ∀ w : World, (Instr.buildSlice 69 1 #[(0, a0)]).run Tryd.prog w = .ok (.slice (some ⟨w.heap.size, 0, none⟩) 1 1) (w.alloc (.cells [a0].toArray 24 (0, 0))) := by
  (cases a0 <;> first | (cases h0; done) | skip) <;> (intro w; kernel_rfl)
theorem bs_o_pile_0   : ∀ w : World, (Instr.buildSlice 76 0 #[]).run Tryd.prog w = .ok (.slice (some ⟨w.heap.size, 0, none⟩) 0 0) (w.alloc (.cells [].toArray 24 (0, 0))) := by
  (intro w; kernel_rfl)
theorem bl_sealskinref03_Wide_01 (a0 : Value) (a1 : Value) (h0 : a0.oneCell' = true := by first | rfl | assumption) (h1 : a1.oneCell' = true := by first | rfl | assumption) : ∀ w, (Instr.build 151 #[(0, a0), (1, a1)]).run Tryd.prog w = .ok (.agg #[a0, a1]) w := by
  (cases a0 <;> first | (cases h0; done) | skip) <;> (cases a1 <;> first | (cases h1; done) | skip) <;> (intro w; kernel_rfl)
theorem bs_string_0   : ∀ w : World, (Instr.buildSlice 63 0 #[]).run Tryd.prog w = .ok (.slice (some ⟨w.heap.size, 0, none⟩) 0 0) (w.alloc (.cells [].toArray 9 (0, 0))) := by
  (intro w; kernel_rfl)
theorem bs_bool_0   : ∀ w : World, (Instr.buildSlice 149 0 #[]).run Tryd.prog w = .ok (.slice (some ⟨w.heap.size, 0, none⟩) 0 0) (w.alloc (.cells [].toArray 4 (0, 0))) := by
  (intro w; kernel_rfl)
theorem bl_utf8_acceptRange_01 (a0 : Value) (a1 : Value) (h0 : a0.oneCell' = true := by first | rfl | assumption) (h1 : a1.oneCell' = true := by first | rfl | assumption) : ∀ w, (Instr.build 109 #[(0, a0), (1, a1)]).run Tryd.prog w = .ok (.agg #[a0, a1]) w := by
  (cases a0 <;> first | (cases h0; done) | skip) <;> (cases a1 <;> first | (cases h1; done) | skip) <;> (intro w; kernel_rfl)
end Go.SK
