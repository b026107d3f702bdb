/- Facts on this translation's types and functions, printed by a program of this session. -/
import Derived.Test.YtpomdenbgdgbhaaDoorMA
import Derived.Test.YtpomdenbgdgbhaaDoorProg
import Derived.KernelRfl
set_option maxRecDepth 100000
namespace Go.SK
open Go Go.Proofs
theorem mo : Tryd.prog.follows .mixedOrders = true := by kernel_rfl
theorem ts_int : TScal Tryd.prog 3 := ⟨fun w => by kernel_rfl, fun w => by kernel_rfl⟩
theorem un_int : Tryd.prog.underlying 3 = some (.int .i64) := Tryd.underlying3
theorem ts_bool : TScal Tryd.prog 4 := ⟨fun w => by kernel_rfl, fun w => by kernel_rfl⟩
theorem un_bool : Tryd.prog.underlying 4 = some .bool := Tryd.underlying4
theorem ts_uint8 : TScal Tryd.prog 5 := ⟨fun w => by kernel_rfl, fun w => by kernel_rfl⟩
theorem un_uint8 : Tryd.prog.underlying 5 = some (.int .u8) := Tryd.underlying5
theorem ts_string : TScal Tryd.prog 9 := ⟨fun w => by kernel_rfl, fun w => by kernel_rfl⟩
theorem un_string : Tryd.prog.underlying 9 = some .string := Tryd.underlying9
theorem ts_int32 : TScal Tryd.prog 21 := ⟨fun w => by kernel_rfl, fun w => by kernel_rfl⟩
theorem un_int32 : Tryd.prog.underlying 21 = some (.int .i32) := Tryd.underlying21
theorem ts_api_Errno : TScal Tryd.prog 26 := ⟨fun w => by kernel_rfl, fun w => by kernel_rfl⟩
theorem ts_sl_int : TScal Tryd.prog 29 := ⟨fun w => by kernel_rfl, fun w => by kernel_rfl⟩
theorem un_sl_int : Tryd.prog.underlying 29 = some (.slice 3) := Tryd.underlying29
theorem tsl_int : TSlice Tryd.prog 29 3 1 8 (.int .i64 0) := ⟨Tryd.underlying29, by kernel_rfl, rfl⟩
theorem ts_sl_api_Part : TScal Tryd.prog 36 := ⟨fun w => by kernel_rfl, fun w => by kernel_rfl⟩
theorem un_sl_api_Part : Tryd.prog.underlying 36 = some (.slice 104) := Tryd.underlying36
theorem tsl_api_Part : TSlice Tryd.prog 36 104 3 32 (.agg #[.int .i64 0, .int .i64 0, .string ⟨#[]⟩]) := ⟨Tryd.underlying36, by kernel_rfl, rfl⟩
theorem ts_sl_int32 : TScal Tryd.prog 54 := ⟨fun w => by kernel_rfl, fun w => by kernel_rfl⟩
theorem un_sl_int32 : Tryd.prog.underlying 54 = some (.slice 21) := Tryd.underlying54
theorem tsl_int32 : TSlice Tryd.prog 54 21 1 4 (.int .i32 0) := ⟨Tryd.underlying54, by kernel_rfl, rfl⟩
theorem ts_p_match_Pattern : TScal Tryd.prog 66 := ⟨fun w => by kernel_rfl, fun w => by kernel_rfl⟩
theorem ts_sl_sealskinref12_Step : TScal Tryd.prog 76 := ⟨fun w => by kernel_rfl, fun w => by kernel_rfl⟩
theorem un_sl_sealskinref12_Step : Tryd.prog.underlying 76 = some (.slice 135) := Tryd.underlying76
theorem tsl_sealskinref12_Step : TSlice Tryd.prog 76 135 12 128 (.agg #[.int .i64 0, .int .i64 0, .bool false, .slice none 0 0, .slice none 0 0, .int .i64 0, .int .i64 0, .bool false, .int .i64 0, .int .i64 0, .int .i64 0, .int .i64 0]) := ⟨Tryd.underlying76, by kernel_rfl, rfl⟩
theorem fld_sealskinref12_Pattern_L : TField Tryd.prog 78 0 0 := fun ad w => by kernel_rfl
theorem fld_sealskinref12_Pattern_Groups : TField Tryd.prog 78 1 1 := fun ad w => by kernel_rfl
theorem ts_sl_match_step : TScal Tryd.prog 79 := ⟨fun w => by kernel_rfl, fun w => by kernel_rfl⟩
theorem un_sl_match_step : Tryd.prog.underlying 79 = some (.slice 156) := Tryd.underlying79
theorem tsl_match_step : TSlice Tryd.prog 79 156 5 56 (.agg #[.int .i64 0, .bool false, .slice none 0 0, .int .i64 0, .int .i64 0]) := ⟨Tryd.underlying79, by kernel_rfl, rfl⟩
theorem fld_match_Pattern_l : TField Tryd.prog 81 0 0 := fun ad w => by kernel_rfl
theorem fld_match_Pattern_groups : TField Tryd.prog 81 1 1 := fun ad w => by kernel_rfl
theorem fld_match_Pattern_made : TField Tryd.prog 81 2 2 := fun ad w => by kernel_rfl
theorem un_sl_sl_int : Tryd.prog.underlying 83 = some (.slice 29) := Tryd.underlying83
theorem tsl_sl_int : TSlice Tryd.prog 83 29 1 24 (.slice none 0 0) := ⟨Tryd.underlying83, by kernel_rfl, rfl⟩
theorem tst_api_Part : TStruct Tryd.prog 104 3 := ⟨fun w => by kernel_rfl, fun w => by kernel_rfl⟩
theorem fld_api_Part_Kind : TField Tryd.prog 104 0 0 := fun ad w => by kernel_rfl
theorem fld_api_Part_N : TField Tryd.prog 104 1 1 := fun ad w => by kernel_rfl
theorem fld_api_Part_Text : TField Tryd.prog 104 2 2 := fun ad w => by kernel_rfl
theorem tz_api_Part : TZero Tryd.prog 104 (.agg #[.int .i64 0, .int .i64 0, .string ⟨#[]⟩]) := fun w => by kernel_rfl
theorem un_sl_uint8 : Tryd.prog.underlying 112 = some (.slice 5) := Tryd.underlying112
theorem tsl_uint8 : TSlice Tryd.prog 112 5 1 1 (.int .u8 0) := ⟨Tryd.underlying112, by kernel_rfl, rfl⟩
theorem fld_sealskinref12_reader_l : TField Tryd.prog 126 0 0 := fun ad w => by kernel_rfl
theorem fld_sealskinref12_reader_at : TField Tryd.prog 126 1 1 := fun ad w => by kernel_rfl
theorem fld_sealskinref12_reader_groups : TField Tryd.prog 126 2 2 := fun ad w => by kernel_rfl
theorem fld_sealskinref12_reader_e : TField Tryd.prog 126 3 3 := fun ad w => by kernel_rfl
theorem ts_sl_ar2_int32 : TScal Tryd.prog 127 := ⟨fun w => by kernel_rfl, fun w => by kernel_rfl⟩
theorem un_sl_ar2_int32 : Tryd.prog.underlying 127 = some (.slice 212) := Tryd.underlying127
theorem tsl_ar2_int32 : TSlice Tryd.prog 127 212 2 8 (.agg #[.int .i32 0, .int .i32 0]) := ⟨Tryd.underlying127, by kernel_rfl, rfl⟩
theorem ts_sl_sealskinref12_Part : TScal Tryd.prog 128 := ⟨fun w => by kernel_rfl, fun w => by kernel_rfl⟩
theorem un_sl_sealskinref12_Part : Tryd.prog.underlying 128 = some (.slice 130) := Tryd.underlying128
theorem tsl_sealskinref12_Part : TSlice Tryd.prog 128 130 8 96 (.agg #[.int .i64 0, .bool false, .slice none 0 0, .slice none 0 0, .int .i64 0, .int .i64 0, .bool false, .int .i64 0]) := ⟨Tryd.underlying128, by kernel_rfl, rfl⟩
theorem tst_sealskinref12_Part : TStruct Tryd.prog 130 8 := ⟨fun w => by kernel_rfl, fun w => by kernel_rfl⟩
theorem fld_sealskinref12_Part_Kind : TField Tryd.prog 130 0 0 := fun ad w => by kernel_rfl
theorem fld_sealskinref12_Part_Not : TField Tryd.prog 130 1 1 := fun ad w => by kernel_rfl
theorem fld_sealskinref12_Part_Set : TField Tryd.prog 130 2 2 := fun ad w => by kernel_rfl
theorem fld_sealskinref12_Part_Kids : TField Tryd.prog 130 3 3 := fun ad w => by kernel_rfl
theorem fld_sealskinref12_Part_From : TField Tryd.prog 130 4 4 := fun ad w => by kernel_rfl
theorem fld_sealskinref12_Part_To : TField Tryd.prog 130 5 5 := fun ad w => by kernel_rfl
theorem fld_sealskinref12_Part_Lazy : TField Tryd.prog 130 6 6 := fun ad w => by kernel_rfl
theorem fld_sealskinref12_Part_Num : TField Tryd.prog 130 7 7 := fun ad w => by kernel_rfl
theorem tz_sealskinref12_Part : TZero Tryd.prog 130 (.agg #[.int .i64 0, .bool false, .slice none 0 0, .slice none 0 0, .int .i64 0, .int .i64 0, .bool false, .int .i64 0]) := fun w => by kernel_rfl
theorem tst_sealskinref12_Step : TStruct Tryd.prog 135 12 := ⟨fun w => by kernel_rfl, fun w => by kernel_rfl⟩
theorem fld_sealskinref12_Step_Kind : TField Tryd.prog 135 0 0 := fun ad w => by kernel_rfl
theorem fld_sealskinref12_Step_P : TField Tryd.prog 135 1 1 := fun ad w => by kernel_rfl
theorem fld_sealskinref12_Step_X : TField Tryd.prog 135 2 9 := fun ad w => by kernel_rfl
theorem fld_sealskinref12_Step_Y : TField Tryd.prog 135 3 10 := fun ad w => by kernel_rfl
theorem fld_sealskinref12_Step_Slot : TField Tryd.prog 135 4 11 := fun ad w => by kernel_rfl
theorem tz_sealskinref12_Step : TZero Tryd.prog 135 (.agg #[.int .i64 0, .int .i64 0, .bool false, .slice none 0 0, .slice none 0 0, .int .i64 0, .int .i64 0, .bool false, .int .i64 0, .int .i64 0, .int .i64 0, .int .i64 0]) := fun w => by kernel_rfl
theorem ts_map140 : TScal Tryd.prog 140 := ⟨fun w => by kernel_rfl, fun w => by kernel_rfl⟩
theorem fld_sealskinref12_search_l : TField Tryd.prog 142 0 0 := fun ad w => by kernel_rfl
theorem fld_sealskinref12_search_text : TField Tryd.prog 142 1 1 := fun ad w => by kernel_rfl
theorem fld_sealskinref12_search_been : TField Tryd.prog 142 2 2 := fun ad w => by kernel_rfl
theorem ts_p_match_node : TScal Tryd.prog 146 := ⟨fun w => by kernel_rfl, fun w => by kernel_rfl⟩
theorem fld_match_maker_l : TField Tryd.prog 151 0 0 := fun ad w => by kernel_rfl
theorem ts_sl_match_span : TScal Tryd.prog 154 := ⟨fun w => by kernel_rfl, fun w => by kernel_rfl⟩
theorem un_sl_match_span : Tryd.prog.underlying 154 = some (.slice 210) := Tryd.underlying154
theorem tsl_match_span : TSlice Tryd.prog 154 210 2 8 (.agg #[.int .i32 0, .int .i32 0]) := ⟨Tryd.underlying154, by kernel_rfl, rfl⟩
theorem tst_match_step : TStruct Tryd.prog 156 5 := ⟨fun w => by kernel_rfl, fun w => by kernel_rfl⟩
theorem fld_match_step_kind : TField Tryd.prog 156 0 0 := fun ad w => by kernel_rfl
theorem fld_match_step_not : TField Tryd.prog 156 1 1 := fun ad w => by kernel_rfl
theorem fld_match_step_set : TField Tryd.prog 156 2 2 := fun ad w => by kernel_rfl
theorem fld_match_step_x : TField Tryd.prog 156 3 3 := fun ad w => by kernel_rfl
theorem fld_match_step_y : TField Tryd.prog 156 4 4 := fun ad w => by kernel_rfl
theorem fld_edit_maker_out : TField Tryd.prog 162 0 0 := fun ad w => by kernel_rfl
theorem tz_edit_maker : TZero Tryd.prog 162 (.agg #[.slice none 0 0]) := fun w => by kernel_rfl
theorem fld_match_run_p : TField Tryd.prog 182 0 0 := fun ad w => by kernel_rfl
theorem fld_match_run_text : TField Tryd.prog 182 1 1 := fun ad w => by kernel_rfl
theorem fld_match_run_seen : TField Tryd.prog 182 2 2 := fun ad w => by kernel_rfl
theorem un_sl_match_thread : Tryd.prog.underlying 183 = some (.slice 186) := Tryd.underlying183
theorem tsl_match_thread : TSlice Tryd.prog 183 186 2 32 (.agg #[.int .i64 0, .slice none 0 0]) := ⟨Tryd.underlying183, by kernel_rfl, rfl⟩
theorem tst_match_thread : TStruct Tryd.prog 186 2 := ⟨fun w => by kernel_rfl, fun w => by kernel_rfl⟩
theorem fld_match_thread_at : TField Tryd.prog 186 0 0 := fun ad w => by kernel_rfl
theorem fld_match_thread_saved : TField Tryd.prog 186 1 1 := fun ad w => by kernel_rfl
theorem tz_match_thread : TZero Tryd.prog 186 (.agg #[.int .i64 0, .slice none 0 0]) := fun w => by kernel_rfl
theorem fld_match_reader_l : TField Tryd.prog 193 0 0 := fun ad w => by kernel_rfl
theorem fld_match_reader_at : TField Tryd.prog 193 1 1 := fun ad w => by kernel_rfl
theorem fld_match_reader_groups : TField Tryd.prog 193 2 2 := fun ad w => by kernel_rfl
theorem ts_sl_p_match_node : TScal Tryd.prog 196 := ⟨fun w => by kernel_rfl, fun w => by kernel_rfl⟩
theorem un_sl_p_match_node : Tryd.prog.underlying 196 = some (.slice 146) := Tryd.underlying196
theorem tsl_p_match_node : TSlice Tryd.prog 196 146 1 8 (.pointer none) := ⟨Tryd.underlying196, by kernel_rfl, rfl⟩
theorem fld_match_node_kind : TField Tryd.prog 198 0 0 := fun ad w => by kernel_rfl
theorem fld_match_node_not : TField Tryd.prog 198 1 1 := fun ad w => by kernel_rfl
theorem fld_match_node_spans : TField Tryd.prog 198 2 2 := fun ad w => by kernel_rfl
theorem fld_match_node_kids : TField Tryd.prog 198 3 3 := fun ad w => by kernel_rfl
theorem fld_match_node_lo : TField Tryd.prog 198 4 4 := fun ad w => by kernel_rfl
theorem fld_match_node_hi : TField Tryd.prog 198 5 5 := fun ad w => by kernel_rfl
theorem fld_match_node_lazy : TField Tryd.prog 198 6 6 := fun ad w => by kernel_rfl
theorem fld_match_node_num : TField Tryd.prog 198 7 7 := fun ad w => by kernel_rfl
theorem tst_match_span : TStruct Tryd.prog 210 2 := ⟨fun w => by kernel_rfl, fun w => by kernel_rfl⟩
theorem fld_match_span_lo : TField Tryd.prog 210 0 0 := fun ad w => by kernel_rfl
theorem fld_match_span_hi : TField Tryd.prog 210 1 1 := fun ad w => by kernel_rfl
theorem tst_ar2_int32 : TStruct Tryd.prog 212 2 := ⟨fun w => by kernel_rfl, fun w => by kernel_rfl⟩
theorem tz_ar2_int32 : TZero Tryd.prog 212 (.agg #[.int .i32 0, .int .i32 0]) := fun w => by kernel_rfl
theorem en_18 : Enters Tryd.prog 18 := enters_of Tryd.func18 (by kernel_rfl) (by kernel_rfl)
theorem en_24 : Enters Tryd.prog 24 := enters_of Tryd.func24 (by kernel_rfl) (by kernel_rfl)
theorem en_27 : Enters Tryd.prog 27 := enters_of Tryd.func27 (by kernel_rfl) (by kernel_rfl)
theorem en_32 : Enters Tryd.prog 32 := enters_of Tryd.func32 (by kernel_rfl) (by kernel_rfl)
theorem en_47 : Enters Tryd.prog 47 := enters_of Tryd.func47 (by kernel_rfl) (by kernel_rfl)
theorem en_48 : Enters Tryd.prog 48 := enters_of Tryd.func48 (by kernel_rfl) (by kernel_rfl)
theorem en_49 : Enters Tryd.prog 49 := enters_of Tryd.func49 (by kernel_rfl) (by kernel_rfl)
theorem en_50 : Enters Tryd.prog 50 := enters_of Tryd.func50 (by kernel_rfl) (by kernel_rfl)
theorem en_51 : Enters Tryd.prog 51 := enters_of Tryd.func51 (by kernel_rfl) (by kernel_rfl)
theorem en_52 : Enters Tryd.prog 52 := enters_of Tryd.func52 (by kernel_rfl) (by kernel_rfl)
theorem en_53 : Enters Tryd.prog 53 := enters_of Tryd.func53 (by kernel_rfl) (by kernel_rfl)
theorem en_54 : Enters Tryd.prog 54 := enters_of Tryd.func54 (by kernel_rfl) (by kernel_rfl)
theorem en_55 : Enters Tryd.prog 55 := enters_of Tryd.func55 (by kernel_rfl) (by kernel_rfl)
theorem en_56 : Enters Tryd.prog 56 := enters_of Tryd.func56 (by kernel_rfl) (by kernel_rfl)
theorem en_57 : Enters Tryd.prog 57 := enters_of Tryd.func57 (by kernel_rfl) (by kernel_rfl)
theorem en_58 : Enters Tryd.prog 58 := enters_of Tryd.func58 (by kernel_rfl) (by kernel_rfl)
theorem en_59 : Enters Tryd.prog 59 := enters_of Tryd.func59 (by kernel_rfl) (by kernel_rfl)
theorem en_60 : Enters Tryd.prog 60 := enters_of Tryd.func60 (by kernel_rfl) (by kernel_rfl)
theorem en_75 : Enters Tryd.prog 75 := enters_of Tryd.func75 (by kernel_rfl) (by kernel_rfl)
theorem en_80 : Enters Tryd.prog 80 := enters_of Tryd.func80 (by kernel_rfl) (by kernel_rfl)
theorem en_81 : Enters Tryd.prog 81 := enters_of Tryd.func81 (by kernel_rfl) (by kernel_rfl)
theorem en_83 : Enters Tryd.prog 83 := enters_of Tryd.func83 (by kernel_rfl) (by kernel_rfl)
theorem en_84 : Enters Tryd.prog 84 := enters_of Tryd.func84 (by kernel_rfl) (by kernel_rfl)
theorem en_85 : Enters Tryd.prog 85 := enters_of Tryd.func85 (by kernel_rfl) (by kernel_rfl)
theorem en_86 : Enters Tryd.prog 86 := enters_of Tryd.func86 (by kernel_rfl) (by kernel_rfl)
theorem en_87 : Enters Tryd.prog 87 := enters_of Tryd.func87 (by kernel_rfl) (by kernel_rfl)
theorem en_88 : Enters Tryd.prog 88 := enters_of Tryd.func88 (by kernel_rfl) (by kernel_rfl)
theorem en_89 : Enters Tryd.prog 89 := enters_of Tryd.func89 (by kernel_rfl) (by kernel_rfl)
theorem en_90 : Enters Tryd.prog 90 := enters_of Tryd.func90 (by kernel_rfl) (by kernel_rfl)
theorem en_91 : Enters Tryd.prog 91 := enters_of Tryd.func91 (by kernel_rfl) (by kernel_rfl)
theorem en_92 : Enters Tryd.prog 92 := enters_of Tryd.func92 (by kernel_rfl) (by kernel_rfl)
theorem en_93 : Enters Tryd.prog 93 := enters_of Tryd.func93 (by kernel_rfl) (by kernel_rfl)
theorem en_94 : Enters Tryd.prog 94 := enters_of Tryd.func94 (by kernel_rfl) (by kernel_rfl)
theorem en_96 : Enters Tryd.prog 96 := enters_of Tryd.func96 (by kernel_rfl) (by kernel_rfl)
theorem en_98 : Enters Tryd.prog 98 := enters_of Tryd.func98 (by kernel_rfl) (by kernel_rfl)
theorem en_102 : Enters Tryd.prog 102 := enters_of Tryd.func102 (by kernel_rfl) (by kernel_rfl)
theorem en_108 : Enters Tryd.prog 108 := enters_of Tryd.func108 (by kernel_rfl) (by kernel_rfl)
theorem en_110 : Enters Tryd.prog 110 := enters_of Tryd.func110 (by kernel_rfl) (by kernel_rfl)
theorem en_114 : Enters Tryd.prog 114 := enters_of Tryd.func114 (by kernel_rfl) (by kernel_rfl)
theorem en_115 : Enters Tryd.prog 115 := enters_of Tryd.func115 (by kernel_rfl) (by kernel_rfl)
theorem en_118 : Enters Tryd.prog 118 := enters_of Tryd.func118 (by kernel_rfl) (by kernel_rfl)
theorem en_119 : Enters Tryd.prog 119 := enters_of Tryd.func119 (by kernel_rfl) (by kernel_rfl)
theorem en_120 : Enters Tryd.prog 120 := enters_of Tryd.func120 (by kernel_rfl) (by kernel_rfl)
theorem en_121 : Enters Tryd.prog 121 := enters_of Tryd.func121 (by kernel_rfl) (by kernel_rfl)
theorem en_122 : Enters Tryd.prog 122 := enters_of Tryd.func122 (by kernel_rfl) (by kernel_rfl)
theorem en_123 : Enters Tryd.prog 123 := enters_of Tryd.func123 (by kernel_rfl) (by kernel_rfl)
theorem en_124 : Enters Tryd.prog 124 := enters_of Tryd.func124 (by kernel_rfl) (by kernel_rfl)
theorem en_125 : Enters Tryd.prog 125 := enters_of Tryd.func125 (by kernel_rfl) (by kernel_rfl)
theorem en_126 : Enters Tryd.prog 126 := enters_of Tryd.func126 (by kernel_rfl) (by kernel_rfl)
theorem en_127 : Enters Tryd.prog 127 := enters_of Tryd.func127 (by kernel_rfl) (by kernel_rfl)
theorem en_128 : Enters Tryd.prog 128 := enters_of Tryd.func128 (by kernel_rfl) (by kernel_rfl)
theorem en_129 : Enters Tryd.prog 129 := enters_of Tryd.func129 (by kernel_rfl) (by kernel_rfl)
theorem en_140 : Enters Tryd.prog 140 := enters_of Tryd.func140 (by kernel_rfl) (by kernel_rfl)
theorem en_141 : Enters Tryd.prog 141 := enters_of Tryd.func141 (by kernel_rfl) (by kernel_rfl)
theorem en_142 : Enters Tryd.prog 142 := enters_of Tryd.func142 (by kernel_rfl) (by kernel_rfl)
theorem en_143 : Enters Tryd.prog 143 := enters_of Tryd.func143 (by kernel_rfl) (by kernel_rfl)
theorem en_144 : Enters Tryd.prog 144 := enters_of Tryd.func144 (by kernel_rfl) (by kernel_rfl)
theorem en_145 : Enters Tryd.prog 145 := enters_of Tryd.func145 (by kernel_rfl) (by kernel_rfl)
theorem en_146 : Enters Tryd.prog 146 := enters_of Tryd.func146 (by kernel_rfl) (by kernel_rfl)
theorem en_149 : Enters Tryd.prog 149 := enters_of Tryd.func149 (by kernel_rfl) (by kernel_rfl)
theorem en_150 : Enters Tryd.prog 150 := enters_of Tryd.func150 (by kernel_rfl) (by kernel_rfl)
theorem en_151 : Enters Tryd.prog 151 := enters_of Tryd.func151 (by kernel_rfl) (by kernel_rfl)
theorem en_152 : Enters Tryd.prog 152 := enters_of Tryd.func152 (by kernel_rfl) (by kernel_rfl)
theorem en_153 : Enters Tryd.prog 153 := enters_of Tryd.func153 (by kernel_rfl) (by kernel_rfl)
theorem en_154 : Enters Tryd.prog 154 := enters_of Tryd.func154 (by kernel_rfl) (by kernel_rfl)
theorem en_155 : Enters Tryd.prog 155 := enters_of Tryd.func155 (by kernel_rfl) (by kernel_rfl)
theorem en_156 : Enters Tryd.prog 156 := enters_of Tryd.func156 (by kernel_rfl) (by kernel_rfl)
theorem en_157 : Enters Tryd.prog 157 := enters_of Tryd.func157 (by kernel_rfl) (by kernel_rfl)
theorem en_158 : Enters Tryd.prog 158 := enters_of Tryd.func158 (by kernel_rfl) (by kernel_rfl)
theorem en_159 : Enters Tryd.prog 159 := enters_of Tryd.func159 (by kernel_rfl) (by kernel_rfl)
theorem en_160 : Enters Tryd.prog 160 := enters_of Tryd.func160 (by kernel_rfl) (by kernel_rfl)
theorem en_161 : Enters Tryd.prog 161 := enters_of Tryd.func161 (by kernel_rfl) (by kernel_rfl)
theorem en_162 : Enters Tryd.prog 162 := enters_of Tryd.func162 (by kernel_rfl) (by kernel_rfl)
theorem bs_int_2 (a0 : Value) (a1 : Value) (h0 : a0.oneCell' = true := by first | rfl | assumption) (h1 : a1.oneCell' = true := by first | rfl | assumption) : ∀ w : World, (Instr.buildSlice 29 2 #[(0, a0), (1, a1)]).run Tryd.prog w = .ok (.slice (some ⟨w.heap.size, 0, none⟩) 2 2) (w.alloc (.cells [a0, a1].toArray 3 (0, 0))) := by
  (cases a0 <;> first | (cases h0; done) | skip) <;> (cases a1 <;> first | (cases h1; done) | skip) <;> (intro w; kernel_rfl)
theorem bs_int_1 (a0 : Value) (h0 : a0.oneCell' = true := by first | rfl | assumption) : ∀ w : World, (Instr.buildSlice 29 1 #[(0, a0)]).run Tryd.prog w = .ok (.slice (some ⟨w.heap.size, 0, none⟩) 1 1) (w.alloc (.cells [a0].toArray 3 (0, 0))) := by
  (cases a0 <;> first | (cases h0; done) | skip) <;> (intro w; kernel_rfl)
theorem bl_api_Part_01 (a0 : Value) (a1 : Value) (h0 : a0.oneCell' = true := by first | rfl | assumption) (h1 : a1.oneCell' = true := by first | rfl | assumption) : ∀ w, (Instr.build 104 #[(0, a0), (1, a1)]).run Tryd.prog w = .ok (.agg #[a0, a1, .string ⟨#[]⟩]) w := by
  (cases a0 <;> first | (cases h0; done) | skip) <;> (cases a1 <;> first | (cases h1; done) | skip) <;> (intro w; kernel_rfl)
theorem bl_api_Part_012 (a0 : Int) (a1 : Int) (a2 : ByteArray)  : ∀ w, (Instr.build 104 #[(0, (.int .i64 a0)), (1, (.int .i64 a1)), (2, (.string a2))]).run Tryd.prog w = .ok (.agg #[(.int .i64 a0), (.int .i64 a1), (.string a2)]) w := by
  (intro w; kernel_rfl)
theorem bs_int_6 (a0 : Int) (a1 : Int) (a2 : Int) (a3 : Int) (a4 : Int) (a5 : Int)  : ∀ w : World, (Instr.buildSlice 29 6 #[(0, (.int .i64 a0)), (1, (.int .i64 a1)), (2, (.int .i64 a2)), (3, (.int .i64 a3)), (4, (.int .i64 a4)), (5, (.int .i64 a5))]).run Tryd.prog w = .ok (.slice (some ⟨w.heap.size, 0, none⟩) 6 6) (w.alloc (.cells [(.int .i64 a0), (.int .i64 a1), (.int .i64 a2), (.int .i64 a3), (.int .i64 a4), (.int .i64 a5)].toArray 3 (0, 0))) := by
  (intro w; kernel_rfl)
theorem bl_sealskinref12_reader_0 (a0 : Value) (h0 : a0.oneCell' = true := by first | rfl | assumption) : ∀ w, (Instr.build 126 #[(0, a0)]).run Tryd.prog w = .ok (.agg #[a0, .int .i64 0, .int .i64 0, .int .i64 0]) w := by
  (cases a0 <;> first | (cases h0; done) | skip) <;> (intro w; kernel_rfl)
theorem bl_sealskinref12_Step_   : ∀ w, (Instr.build 135 #[]).run Tryd.prog w = .ok (.agg #[.int .i64 0, .int .i64 0, .bool false, .slice none 0 0, .slice none 0 0, .int .i64 0, .int .i64 0, .bool false, .int .i64 0, .int .i64 0, .int .i64 0, .int .i64 0]) w := by
  (intro w; kernel_rfl)
theorem bl_sealskinref12_Pattern_01 (a0 : Value) (a1 : Value) (h0 : a0.oneCell' = true := by first | rfl | assumption) (h1 : a1.oneCell' = true := by first | rfl | assumption) : ∀ w, (Instr.build 78 #[(0, a0), (1, a1)]).run Tryd.prog w = .ok (.agg #[a0, a1]) w := by
  (cases a0 <;> first | (cases h0; done) | skip) <;> (cases a1 <;> first | (cases h1; done) | skip) <;> (intro w; kernel_rfl)
theorem bl_sealskinref12_search_012 (a0 : Value) (a1 : Value) (a2 : Value) (h0 : a0.oneCell' = true := by first | rfl | assumption) (h1 : a1.oneCell' = true := by first | rfl | assumption) (h2 : a2.oneCell' = true := by first | rfl | assumption) : ∀ w, (Instr.build 142 #[(0, a0), (1, a1), (2, a2)]).run Tryd.prog w = .ok (.agg #[a0, a1, a2]) w := by
  (cases a0 <;> first | (cases h0; done) | skip) <;> (cases a1 <;> first | (cases h1; done) | skip) <;> (cases a2 <;> first | (cases h2; done) | skip) <;> (intro w; kernel_rfl)
theorem bs_int32_1 (a0 : Value) (h0 : a0.oneCell' = true := by first | rfl | assumption) : ∀ w : World, (Instr.buildSlice 54 1 #[(0, a0)]).run Tryd.prog w = .ok (.slice (some ⟨w.heap.size, 0, none⟩) 1 1) (w.alloc (.cells [a0].toArray 21 (0, 0))) := by
  (cases a0 <;> first | (cases h0; done) | skip) <;> (intro w; kernel_rfl)
theorem bs_int32_2 (a0 : Value) (a1 : Value) (h0 : a0.oneCell' = true := by first | rfl | assumption) (h1 : a1.oneCell' = true := by first | rfl | assumption) : ∀ w : World, (Instr.buildSlice 54 2 #[(0, a0), (1, a1)]).run Tryd.prog w = .ok (.slice (some ⟨w.heap.size, 0, none⟩) 2 2) (w.alloc (.cells [a0, a1].toArray 21 (0, 0))) := by
  (cases a0 <;> first | (cases h0; done) | skip) <;> (cases a1 <;> first | (cases h1; done) | skip) <;> (intro w; kernel_rfl)
theorem bl_match_maker_   : ∀ w, (Instr.build 151 #[]).run Tryd.prog w = .ok (.agg #[.slice none 0 0]) w := by
  (intro w; kernel_rfl)
theorem bl_match_step_0 (a0 : Value) (h0 : a0.oneCell' = true := by first | rfl | assumption) : ∀ w, (Instr.build 156 #[(0, a0)]).run Tryd.prog w = .ok (.agg #[a0, .bool false, .slice none 0 0, .int .i64 0, .int .i64 0]) w := by
  (cases a0 <;> first | (cases h0; done) | skip) <;> (intro w; kernel_rfl)
theorem bl_match_Pattern_012 (a0 : Value) (a1 : Int) (a2 : Bool) (h0 : a0.oneCell' = true := by first | rfl | assumption) : ∀ w, (Instr.build 81 #[(0, a0), (1, (.int .i64 a1)), (2, (.bool a2))]).run Tryd.prog w = .ok (.agg #[a0, (.int .i64 a1), (.bool a2)]) w := by
  (cases a0 <;> first | (cases h0; done) | skip) <;> (intro w; kernel_rfl)
theorem bs_sl_int_1 (a0 : Value) (h0 : a0.oneCell' = true := by first | rfl | assumption) : ∀ w : World, (Instr.buildSlice 83 1 #[(0, a0)]).run Tryd.prog w = .ok (.slice (some ⟨w.heap.size, 0, none⟩) 1 1) (w.alloc (.cells [a0].toArray 29 (0, 0))) := by
  (cases a0 <;> first | (cases h0; done) | skip) <;> (intro w; kernel_rfl)
theorem bl_sealskinref12_Part_0 (a0 : Value) (h0 : a0.oneCell' = true := by first | rfl | assumption) : ∀ w, (Instr.build 130 #[(0, a0)]).run Tryd.prog w = .ok (.agg #[a0, .bool false, .slice none 0 0, .slice none 0 0, .int .i64 0, .int .i64 0, .bool false, .int .i64 0]) w := by
  (cases a0 <;> first | (cases h0; done) | skip) <;> (intro w; kernel_rfl)
theorem bl_sealskinref12_Step_02 (a0 : Value) (a1 : Value) (h0 : a0.oneCell' = true := by first | rfl | assumption) (h1 : a1.oneCell' = true := by first | rfl | assumption) : ∀ w, (Instr.build 135 #[(0, a0), (2, a1)]).run Tryd.prog w = .ok (.agg #[a0, .int .i64 0, .bool false, .slice none 0 0, .slice none 0 0, .int .i64 0, .int .i64 0, .bool false, .int .i64 0, a1, .int .i64 0, .int .i64 0]) w := by
  (cases a0 <;> first | (cases h0; done) | skip) <;> (cases a1 <;> first | (cases h1; done) | skip) <;> (intro w; kernel_rfl)
theorem bl_sealskinref12_Step_0 (a0 : Value) (h0 : a0.oneCell' = true := by first | rfl | assumption) : ∀ w, (Instr.build 135 #[(0, a0)]).run Tryd.prog w = .ok (.agg #[a0, .int .i64 0, .bool false, .slice none 0 0, .slice none 0 0, .int .i64 0, .int .i64 0, .bool false, .int .i64 0, .int .i64 0, .int .i64 0, .int .i64 0]) w := by
  (cases a0 <;> first | (cases h0; done) | skip) <;> (intro w; kernel_rfl)
theorem bl_sealskinref12_Step_023 (a0 : Int) (a1 : Int) (a2 : Int)  : ∀ w, (Instr.build 135 #[(0, (.int .i64 a0)), (2, (.int .i64 a1)), (3, (.int .i64 a2))]).run Tryd.prog w = .ok (.agg #[(.int .i64 a0), .int .i64 0, .bool false, .slice none 0 0, .slice none 0 0, .int .i64 0, .int .i64 0, .bool false, .int .i64 0, (.int .i64 a1), (.int .i64 a2), .int .i64 0]) w := by
  (intro w; kernel_rfl)
theorem bl_sealskinref12_Step_042 (a0 : Int) (a1 : Int) (a2 : Int)  : ∀ w, (Instr.build 135 #[(0, (.int .i64 a0)), (4, (.int .i64 a1)), (2, (.int .i64 a2))]).run Tryd.prog w = .ok (.agg #[(.int .i64 a0), .int .i64 0, .bool false, .slice none 0 0, .slice none 0 0, .int .i64 0, .int .i64 0, .bool false, .int .i64 0, (.int .i64 a2), .int .i64 0, (.int .i64 a1)]) w := by
  (intro w; kernel_rfl)
theorem bl_match_run_012 (a0 : Value) (a1 : Value) (a2 : Value) (h0 : a0.oneCell' = true := by first | rfl | assumption) (h1 : a1.oneCell' = true := by first | rfl | assumption) (h2 : a2.oneCell' = true := by first | rfl | assumption) : ∀ w, (Instr.build 182 #[(0, a0), (1, a1), (2, a2)]).run Tryd.prog w = .ok (.agg #[a0, a1, a2]) w := by
  (cases a0 <;> first | (cases h0; done) | skip) <;> (cases a1 <;> first | (cases h1; done) | skip) <;> (cases a2 <;> first | (cases h2; done) | skip) <;> (intro w; kernel_rfl)
theorem bs_int_0   : ∀ w : World, (Instr.buildSlice 29 0 #[]).run Tryd.prog w = .ok (.slice (some ⟨w.heap.size, 0, none⟩) 0 0) (w.alloc (.cells [].toArray 3 (0, 0))) := by
  (intro w; kernel_rfl)
theorem bl_match_reader_0 (a0 : Value) (h0 : a0.oneCell' = true := by first | rfl | assumption) : ∀ w, (Instr.build 193 #[(0, a0)]).run Tryd.prog w = .ok (.agg #[a0, .int .i64 0, .int .i64 0]) w := by
  (cases a0 <;> first | (cases h0; done) | skip) <;> (intro w; kernel_rfl)
theorem bl_match_step_012 (a0 : Int) (a1 : Bool) (a2 : Value) (h2 : a2.oneCell' = true := by first | rfl | assumption) : ∀ w, (Instr.build 156 #[(0, (.int .i64 a0)), (1, (.bool a1)), (2, a2)]).run Tryd.prog w = .ok (.agg #[(.int .i64 a0), (.bool a1), a2, .int .i64 0, .int .i64 0]) w := by
  (cases a2 <;> first | (cases h2; done) | skip) <;> (intro w; kernel_rfl)
theorem bl_match_step_04 (a0 : Value) (a1 : Value) (h0 : a0.oneCell' = true := by first | rfl | assumption) (h1 : a1.oneCell' = true := by first | rfl | assumption) : ∀ w, (Instr.build 156 #[(0, a0), (4, a1)]).run Tryd.prog w = .ok (.agg #[a0, .bool false, .slice none 0 0, .int .i64 0, a1]) w := by
  (cases a0 <;> first | (cases h0; done) | skip) <;> (cases a1 <;> first | (cases h1; done) | skip) <;> (intro w; kernel_rfl)
theorem bl_sealskinref12_Part_045 (a0 : Int) (a1 : Int) (a2 : Int)  : ∀ w, (Instr.build 130 #[(0, (.int .i64 a0)), (4, (.int .i64 a1)), (5, (.int .i64 a2))]).run Tryd.prog w = .ok (.agg #[(.int .i64 a0), .bool false, .slice none 0 0, .slice none 0 0, (.int .i64 a1), (.int .i64 a2), .bool false, .int .i64 0]) w := by
  (intro w; kernel_rfl)
theorem bl_match_thread_01 (a0 : Value) (a1 : Value) (h0 : a0.oneCell' = true := by first | rfl | assumption) (h1 : a1.oneCell' = true := by first | rfl | assumption) : ∀ w, (Instr.build 186 #[(0, a0), (1, a1)]).run Tryd.prog w = .ok (.agg #[a0, a1]) w := by
  (cases a0 <;> first | (cases h0; done) | skip) <;> (cases a1 <;> first | (cases h1; done) | skip) <;> (intro w; kernel_rfl)
theorem bs_p_match_node_1 (a0 : Value) (h0 : a0.oneCell' = true := by first | rfl | assumption) : ∀ w : World, (Instr.buildSlice 196 1 #[(0, a0)]).run Tryd.prog w = .ok (.slice (some ⟨w.heap.size, 0, none⟩) 1 1) (w.alloc (.cells [a0].toArray 146 (0, 0))) := by
  (cases a0 <;> first | (cases h0; done) | skip) <;> (intro w; kernel_rfl)
theorem bl_match_node_03 (a0 : Value) (a1 : Value) (h0 : a0.oneCell' = true := by first | rfl | assumption) (h1 : a1.oneCell' = true := by first | rfl | assumption) : ∀ w, (Instr.build 198 #[(0, a0), (3, a1)]).run Tryd.prog w = .ok (.agg #[a0, .bool false, .slice none 0 0, a1, .int .i64 0, .int .i64 0, .bool false, .int .i64 0]) w := by
  (cases a0 <;> first | (cases h0; done) | skip) <;> (cases a1 <;> first | (cases h1; done) | skip) <;> (intro w; kernel_rfl)
theorem bl_sealskinref12_Part_   : ∀ w, (Instr.build 130 #[]).run Tryd.prog w = .ok (.agg #[.int .i64 0, .bool false, .slice none 0 0, .slice none 0 0, .int .i64 0, .int .i64 0, .bool false, .int .i64 0]) w := by
  (intro w; kernel_rfl)
theorem bl_sealskinref12_Part_07 (a0 : Value) (a1 : Value) (h0 : a0.oneCell' = true := by first | rfl | assumption) (h1 : a1.oneCell' = true := by first | rfl | assumption) : ∀ w, (Instr.build 130 #[(0, a0), (7, a1)]).run Tryd.prog w = .ok (.agg #[a0, .bool false, .slice none 0 0, .slice none 0 0, .int .i64 0, .int .i64 0, .bool false, a1]) w := by
  (cases a0 <;> first | (cases h0; done) | skip) <;> (cases a1 <;> first | (cases h1; done) | skip) <;> (intro w; kernel_rfl)
theorem bl_match_node_0 (a0 : Value) (h0 : a0.oneCell' = true := by first | rfl | assumption) : ∀ w, (Instr.build 198 #[(0, a0)]).run Tryd.prog w = .ok (.agg #[a0, .bool false, .slice none 0 0, .slice none 0 0, .int .i64 0, .int .i64 0, .bool false, .int .i64 0]) w := by
  (cases a0 <;> first | (cases h0; done) | skip) <;> (intro w; kernel_rfl)
theorem bl_sealskinref12_Part_012 (a0 : Int) (a1 : Bool) (a2 : Value) (h2 : a2.oneCell' = true := by first | rfl | assumption) : ∀ w, (Instr.build 130 #[(0, (.int .i64 a0)), (1, (.bool a1)), (2, a2)]).run Tryd.prog w = .ok (.agg #[(.int .i64 a0), (.bool a1), a2, .slice none 0 0, .int .i64 0, .int .i64 0, .bool false, .int .i64 0]) w := by
  (cases a2 <;> first | (cases h2; done) | skip) <;> (intro w; kernel_rfl)
theorem bl_sealskinref12_Part_01 (a0 : Value) (a1 : Value) (h0 : a0.oneCell' = true := by first | rfl | assumption) (h1 : a1.oneCell' = true := by first | rfl | assumption) : ∀ w, (Instr.build 130 #[(0, a0), (1, a1)]).run Tryd.prog w = .ok (.agg #[a0, a1, .slice none 0 0, .slice none 0 0, .int .i64 0, .int .i64 0, .bool false, .int .i64 0]) w := by
  (cases a0 <;> first | (cases h0; done) | skip) <;> (cases a1 <;> first | (cases h1; done) | skip) <;> (intro w; kernel_rfl)
theorem bl_match_node_03456 (a0 : Int) (a1 : Value) (a2 : Int) (a3 : Int) (a4 : Bool) (h1 : a1.oneCell' = true := by first | rfl | assumption) : ∀ w, (Instr.build 198 #[(0, (.int .i64 a0)), (3, a1), (4, (.int .i64 a2)), (5, (.int .i64 a3)), (6, (.bool a4))]).run Tryd.prog w = .ok (.agg #[(.int .i64 a0), .bool false, .slice none 0 0, a1, (.int .i64 a2), (.int .i64 a3), (.bool a4), .int .i64 0]) w := by
  (cases a1 <;> first | (cases h1; done) | skip) <;> (intro w; kernel_rfl)
theorem bs_int32_4 (a0 : Int) (a1 : Int) (a2 : Int) (a3 : Int)  : ∀ w : World, (Instr.buildSlice 54 4 #[(0, (.int .i32 a0)), (1, (.int .i32 a1)), (2, (.int .i32 a2)), (3, (.int .i32 a3))]).run Tryd.prog w = .ok (.slice (some ⟨w.heap.size, 0, none⟩) 4 4) (w.alloc (.cells [(.int .i32 a0), (.int .i32 a1), (.int .i32 a2), (.int .i32 a3)].toArray 21 (0, 0))) := by
  (intro w; kernel_rfl)
theorem bl_match_span_01 (a0 : Value) (a1 : Value) (h0 : a0.oneCell' = true := by first | rfl | assumption) (h1 : a1.oneCell' = true := by first | rfl | assumption) : ∀ w, (Instr.build 210 #[(0, a0), (1, a1)]).run Tryd.prog w = .ok (.agg #[a0, a1]) w := by
  (cases a0 <;> first | (cases h0; done) | skip) <;> (cases a1 <;> first | (cases h1; done) | skip) <;> (intro w; kernel_rfl)
theorem bl_match_node_012 (a0 : Int) (a1 : Bool) (a2 : Value) (h2 : a2.oneCell' = true := by first | rfl | assumption) : ∀ w, (Instr.build 198 #[(0, (.int .i64 a0)), (1, (.bool a1)), (2, a2)]).run Tryd.prog w = .ok (.agg #[(.int .i64 a0), (.bool a1), a2, .slice none 0 0, .int .i64 0, .int .i64 0, .bool false, .int .i64 0]) w := by
  (cases a2 <;> first | (cases h2; done) | skip) <;> (intro w; kernel_rfl)
theorem bl_match_node_037 (a0 : Int) (a1 : Value) (a2 : Int) (h1 : a1.oneCell' = true := by first | rfl | assumption) : ∀ w, (Instr.build 198 #[(0, (.int .i64 a0)), (3, a1), (7, (.int .i64 a2))]).run Tryd.prog w = .ok (.agg #[(.int .i64 a0), .bool false, .slice none 0 0, a1, .int .i64 0, .int .i64 0, .bool false, (.int .i64 a2)]) w := by
  (cases a1 <;> first | (cases h1; done) | skip) <;> (intro w; kernel_rfl)
theorem bl_match_node_02 (a0 : Value) (a1 : Value) (h0 : a0.oneCell' = true := by first | rfl | assumption) (h1 : a1.oneCell' = true := by first | rfl | assumption) : ∀ w, (Instr.build 198 #[(0, a0), (2, a1)]).run Tryd.prog w = .ok (.agg #[a0, .bool false, a1, .slice none 0 0, .int .i64 0, .int .i64 0, .bool false, .int .i64 0]) w := by
  (cases a0 <;> first | (cases h0; done) | skip) <;> (cases a1 <;> first | (cases h1; done) | skip) <;> (intro w; kernel_rfl)
theorem bl_match_node_01 (a0 : Value) (a1 : Value) (h0 : a0.oneCell' = true := by first | rfl | assumption) (h1 : a1.oneCell' = true := by first | rfl | assumption) : ∀ w, (Instr.build 198 #[(0, a0), (1, a1)]).run Tryd.prog w = .ok (.agg #[a0, a1, .slice none 0 0, .slice none 0 0, .int .i64 0, .int .i64 0, .bool false, .int .i64 0]) w := by
  (cases a0 <;> first | (cases h0; done) | skip) <;> (cases a1 <;> first | (cases h1; done) | skip) <;> (intro w; kernel_rfl)
end Go.SK
