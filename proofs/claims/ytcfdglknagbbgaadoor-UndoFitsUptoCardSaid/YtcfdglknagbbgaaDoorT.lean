/- Facts on this translation's types and functions, printed by a program of this session. -/
import Derived.Test.YtcfdglknagbbgaaDoorMA
import Derived.Test.YtcfdglknagbbgaaDoorProg
import Derived.KernelRfl
set_option maxRecDepth 100000
namespace Go.SK
open Go Go.Proofs
theorem mo : Tryd.prog.follows .mixedOrders = true := by kernel_rfl
theorem ts_int64 : TScal Tryd.prog 2 := ⟨fun w => by kernel_rfl, fun w => by kernel_rfl⟩
theorem tz_int64 : TZero Tryd.prog 2 (.int .i64 0) := fun w => by kernel_rfl
theorem un_int64 : Tryd.prog.underlying 2 = some (.int .i64) := Tryd.underlying2
theorem ts_int : TScal Tryd.prog 3 := ⟨fun w => by kernel_rfl, fun w => by kernel_rfl⟩
theorem tz_int : TZero Tryd.prog 3 (.int .i64 0) := fun w => by kernel_rfl
theorem un_int : Tryd.prog.underlying 3 = some (.int .i64) := Tryd.underlying3
theorem ts_bool : TScal Tryd.prog 4 := ⟨fun w => by kernel_rfl, fun w => by kernel_rfl⟩
theorem tz_bool : TZero Tryd.prog 4 (.bool false) := fun w => by kernel_rfl
theorem un_bool : Tryd.prog.underlying 4 = some .bool := Tryd.underlying4
theorem ts_uint8 : TScal Tryd.prog 5 := ⟨fun w => by kernel_rfl, fun w => by kernel_rfl⟩
theorem tz_uint8 : TZero Tryd.prog 5 (.int .u8 0) := fun w => by kernel_rfl
theorem un_uint8 : Tryd.prog.underlying 5 = some (.int .u8) := Tryd.underlying5
theorem ts_string : TScal Tryd.prog 9 := ⟨fun w => by kernel_rfl, fun w => by kernel_rfl⟩
theorem tz_string : TZero Tryd.prog 9 (.string ⟨#[]⟩) := fun w => by kernel_rfl
theorem un_string : Tryd.prog.underlying 9 = some .string := Tryd.underlying9
theorem ts_uintptr : TScal Tryd.prog 12 := ⟨fun w => by kernel_rfl, fun w => by kernel_rfl⟩
theorem tz_uintptr : TZero Tryd.prog 12 (.int .u64 0) := fun w => by kernel_rfl
theorem un_uintptr : Tryd.prog.underlying 12 = some (.int .u64) := Tryd.underlying12
theorem ts_int32 : TScal Tryd.prog 21 := ⟨fun w => by kernel_rfl, fun w => by kernel_rfl⟩
theorem tz_int32 : TZero Tryd.prog 21 (.int .i32 0) := fun w => by kernel_rfl
theorem un_int32 : Tryd.prog.underlying 21 = some (.int .i32) := Tryd.underlying21
theorem ts_sl_sealskinlaw17_Do : TScal Tryd.prog 22 := ⟨fun w => by kernel_rfl, fun w => by kernel_rfl⟩
theorem tz_sl_sealskinlaw17_Do : TZero Tryd.prog 22 (.slice none 0 0) := fun w => by kernel_rfl
theorem un_sl_sealskinlaw17_Do : Tryd.prog.underlying 22 = some (.slice 26) := Tryd.underlying22
theorem tsl_sealskinlaw17_Do : TSlice Tryd.prog 22 26 3 40 (.agg #[.int .i64 0, .int .i64 0, .slice none 0 0]) := ⟨Tryd.underlying22, by kernel_rfl, rfl⟩
theorem ts_sl_api_Part : TScal Tryd.prog 23 := ⟨fun w => by kernel_rfl, fun w => by kernel_rfl⟩
theorem tz_sl_api_Part : TZero Tryd.prog 23 (.slice none 0 0) := fun w => by kernel_rfl
theorem un_sl_api_Part : Tryd.prog.underlying 23 = some (.slice 50) := Tryd.underlying23
theorem tsl_api_Part : TSlice Tryd.prog 23 50 3 32 (.agg #[.int .i64 0, .int .i64 0, .string ⟨#[]⟩]) := ⟨Tryd.underlying23, by kernel_rfl, rfl⟩
theorem tst_sealskinlaw17_Do : TStruct Tryd.prog 26 3 := ⟨fun w => by kernel_rfl, fun w => by kernel_rfl⟩
theorem fld_sealskinlaw17_Do_Op : TField Tryd.prog 26 0 0 := fun ad w => by kernel_rfl
theorem fld_sealskinlaw17_Do_N : TField Tryd.prog 26 1 1 := fun ad w => by kernel_rfl
theorem fld_sealskinlaw17_Do_E : TField Tryd.prog 26 2 2 := fun ad w => by kernel_rfl
theorem tz_sealskinlaw17_Do : TZero Tryd.prog 26 (.agg #[.int .i64 0, .int .i64 0, .slice none 0 0]) := fun w => by kernel_rfl
theorem ts_p_undo_History : TScal Tryd.prog 29 := ⟨fun w => by kernel_rfl, fun w => by kernel_rfl⟩
theorem tz_p_undo_History : TZero Tryd.prog 29 (.pointer none) := fun w => by kernel_rfl
theorem ts_api_Errno : TScal Tryd.prog 31 := ⟨fun w => by kernel_rfl, fun w => by kernel_rfl⟩
theorem tz_api_Errno : TZero Tryd.prog 31 (.int .i64 0) := fun w => by kernel_rfl
theorem un_api_Errno : Tryd.prog.underlying 31 = some (.int .i64) := Tryd.underlying31
theorem ts_sl_string : TScal Tryd.prog 45 := ⟨fun w => by kernel_rfl, fun w => by kernel_rfl⟩
theorem tz_sl_string : TZero Tryd.prog 45 (.slice none 0 0) := fun w => by kernel_rfl
theorem un_sl_string : Tryd.prog.underlying 45 = some (.slice 9) := Tryd.underlying45
theorem tsl_string : TSlice Tryd.prog 45 9 1 16 (.string ⟨#[]⟩) := ⟨Tryd.underlying45, by kernel_rfl, rfl⟩
theorem ts_uint : TScal Tryd.prog 46 := ⟨fun w => by kernel_rfl, fun w => by kernel_rfl⟩
theorem tz_uint : TZero Tryd.prog 46 (.int .u64 0) := fun w => by kernel_rfl
theorem un_uint : Tryd.prog.underlying 46 = some (.int .u64) := Tryd.underlying46
theorem tst_api_Part : TStruct Tryd.prog 50 3 := ⟨fun w => by kernel_rfl, fun w => by kernel_rfl⟩
theorem fld_api_Part_Kind : TField Tryd.prog 50 0 0 := fun ad w => by kernel_rfl
theorem fld_api_Part_N : TField Tryd.prog 50 1 1 := fun ad w => by kernel_rfl
theorem fld_api_Part_Text : TField Tryd.prog 50 2 2 := fun ad w => by kernel_rfl
theorem tz_api_Part : TZero Tryd.prog 50 (.agg #[.int .i64 0, .int .i64 0, .string ⟨#[]⟩]) := fun w => by kernel_rfl
theorem tst_ar16_utf8_acceptRange : TStruct Tryd.prog 55 32 := ⟨fun w => by kernel_rfl, fun w => by kernel_rfl⟩
theorem tz_ar16_utf8_acceptRange : TZero Tryd.prog 55 (.agg #[.int .u8 0, .int .u8 0, .int .u8 0, .int .u8 0, .int .u8 0, .int .u8 0, .int .u8 0, .int .u8 0, .int .u8 0, .int .u8 0, .int .u8 0, .int .u8 0, .int .u8 0, .int .u8 0, .int .u8 0, .int .u8 0, .int .u8 0, .int .u8 0, .int .u8 0, .int .u8 0, .int .u8 0, .int .u8 0, .int .u8 0, .int .u8 0, .int .u8 0, .int .u8 0, .int .u8 0, .int .u8 0, .int .u8 0, .int .u8 0, .int .u8 0, .int .u8 0]) := fun w => by kernel_rfl
theorem ts_sl_int32 : TScal Tryd.prog 59 := ⟨fun w => by kernel_rfl, fun w => by kernel_rfl⟩
theorem tz_sl_int32 : TZero Tryd.prog 59 (.slice none 0 0) := fun w => by kernel_rfl
theorem un_sl_int32 : Tryd.prog.underlying 59 = some (.slice 21) := Tryd.underlying59
theorem tsl_int32 : TSlice Tryd.prog 59 21 1 4 (.int .i32 0) := ⟨Tryd.underlying59, by kernel_rfl, rfl⟩
theorem ts_sl_sl_api_Part : TScal Tryd.prog 63 := ⟨fun w => by kernel_rfl, fun w => by kernel_rfl⟩
theorem tz_sl_sl_api_Part : TZero Tryd.prog 63 (.slice none 0 0) := fun w => by kernel_rfl
theorem un_sl_sl_api_Part : Tryd.prog.underlying 63 = some (.slice 23) := Tryd.underlying63
theorem tsl_sl_api_Part : TSlice Tryd.prog 63 23 1 24 (.slice none 0 0) := ⟨Tryd.underlying63, by kernel_rfl, rfl⟩
theorem ts_undo_pile : TScal Tryd.prog 64 := ⟨fun w => by kernel_rfl, fun w => by kernel_rfl⟩
theorem tz_undo_pile : TZero Tryd.prog 64 (.slice none 0 0) := fun w => by kernel_rfl
theorem un_undo_pile : Tryd.prog.underlying 64 = some (.slice 23) := Tryd.underlying64
theorem tsl_o_pile : TSlice Tryd.prog 64 23 1 24 (.slice none 0 0) := ⟨Tryd.underlying64, by kernel_rfl, rfl⟩
theorem tst_undo_History : TStruct Tryd.prog 66 4 := ⟨fun w => by kernel_rfl, fun w => by kernel_rfl⟩
theorem fld_undo_History_back : TField Tryd.prog 66 0 0 := fun ad w => by kernel_rfl
theorem fld_undo_History_again : TField Tryd.prog 66 1 1 := fun ad w => by kernel_rfl
theorem fld_undo_History_n : TField Tryd.prog 66 2 2 := fun ad w => by kernel_rfl
theorem fld_undo_History_made : TField Tryd.prog 66 3 3 := fun ad w => by kernel_rfl
theorem tz_undo_History : TZero Tryd.prog 66 (.agg #[.slice none 0 0, .slice none 0 0, .int .i64 0, .bool false]) := fun w => by kernel_rfl
theorem tst_edit_maker : TStruct Tryd.prog 73 1 := ⟨fun w => by kernel_rfl, fun w => by kernel_rfl⟩
theorem fld_edit_maker_out : TField Tryd.prog 73 0 0 := fun ad w => by kernel_rfl
theorem tz_edit_maker : TZero Tryd.prog 73 (.agg #[.slice none 0 0]) := fun w => by kernel_rfl
theorem ts_p_edit_walk : TScal Tryd.prog 81 := ⟨fun w => by kernel_rfl, fun w => by kernel_rfl⟩
theorem tz_p_edit_walk : TZero Tryd.prog 81 (.pointer none) := fun w => by kernel_rfl
theorem ts_uint64 : TScal Tryd.prog 83 := ⟨fun w => by kernel_rfl, fun w => by kernel_rfl⟩
theorem tz_uint64 : TZero Tryd.prog 83 (.int .u64 0) := fun w => by kernel_rfl
theorem un_uint64 : Tryd.prog.underlying 83 = some (.int .u64) := Tryd.underlying83
theorem ts_p_edit_maker : TScal Tryd.prog 89 := ⟨fun w => by kernel_rfl, fun w => by kernel_rfl⟩
theorem tz_p_edit_maker : TZero Tryd.prog 89 (.pointer none) := fun w => by kernel_rfl
theorem tst_edit_walk : TStruct Tryd.prog 93 2 := ⟨fun w => by kernel_rfl, fun w => by kernel_rfl⟩
theorem fld_edit_walk_l : TField Tryd.prog 93 0 0 := fun ad w => by kernel_rfl
theorem fld_edit_walk_text : TField Tryd.prog 93 1 1 := fun ad w => by kernel_rfl
theorem tz_edit_walk : TZero Tryd.prog 93 (.agg #[.slice none 0 0, .slice none 0 0]) := fun w => by kernel_rfl
theorem ts_uint32 : TScal Tryd.prog 100 := ⟨fun w => by kernel_rfl, fun w => by kernel_rfl⟩
theorem tz_uint32 : TZero Tryd.prog 100 (.int .u32 0) := fun w => by kernel_rfl
theorem un_uint32 : Tryd.prog.underlying 100 = some (.int .u32) := Tryd.underlying100
theorem ts_p_uint8 : TScal Tryd.prog 104 := ⟨fun w => by kernel_rfl, fun w => by kernel_rfl⟩
theorem tz_p_uint8 : TZero Tryd.prog 104 (.pointer none) := fun w => by kernel_rfl
theorem en_3 : Enters Tryd.prog 3 := enters_of Tryd.func3 (by kernel_rfl) (by kernel_rfl)
theorem en_4 : Enters Tryd.prog 4 := enters_of Tryd.func4 (by kernel_rfl) (by kernel_rfl)
theorem en_5 : Enters Tryd.prog 5 := enters_of Tryd.func5 (by kernel_rfl) (by kernel_rfl)
theorem en_6 : Enters Tryd.prog 6 := enters_of Tryd.func6 (by kernel_rfl) (by kernel_rfl)
theorem en_7 : Enters Tryd.prog 7 := enters_of Tryd.func7 (by kernel_rfl) (by kernel_rfl)
theorem en_8 : Enters Tryd.prog 8 := enters_of Tryd.func8 (by kernel_rfl) (by kernel_rfl)
theorem en_9 : Enters Tryd.prog 9 := enters_of Tryd.func9 (by kernel_rfl) (by kernel_rfl)
theorem en_10 : Enters Tryd.prog 10 := enters_of Tryd.func10 (by kernel_rfl) (by kernel_rfl)
theorem en_11 : Enters Tryd.prog 11 := enters_of Tryd.func11 (by kernel_rfl) (by kernel_rfl)
theorem en_12 : Enters Tryd.prog 12 := enters_of Tryd.func12 (by kernel_rfl) (by kernel_rfl)
theorem en_13 : Enters Tryd.prog 13 := enters_of Tryd.func13 (by kernel_rfl) (by kernel_rfl)
theorem en_14 : Enters Tryd.prog 14 := enters_of Tryd.func14 (by kernel_rfl) (by kernel_rfl)
theorem en_15 : Enters Tryd.prog 15 := enters_of Tryd.func15 (by kernel_rfl) (by kernel_rfl)
theorem en_16 : Enters Tryd.prog 16 := enters_of Tryd.func16 (by kernel_rfl) (by kernel_rfl)
theorem en_17 : Enters Tryd.prog 17 := enters_of Tryd.func17 (by kernel_rfl) (by kernel_rfl)
theorem en_18 : Enters Tryd.prog 18 := enters_of Tryd.func18 (by kernel_rfl) (by kernel_rfl)
theorem en_19 : Enters Tryd.prog 19 := enters_of Tryd.func19 (by kernel_rfl) (by kernel_rfl)
theorem en_20 : Enters Tryd.prog 20 := enters_of Tryd.func20 (by kernel_rfl) (by kernel_rfl)
theorem en_21 : Enters Tryd.prog 21 := enters_of Tryd.func21 (by kernel_rfl) (by kernel_rfl)
theorem en_22 : Enters Tryd.prog 22 := enters_of Tryd.func22 (by kernel_rfl) (by kernel_rfl)
theorem en_23 : Enters Tryd.prog 23 := enters_of Tryd.func23 (by kernel_rfl) (by kernel_rfl)
theorem en_24 : Enters Tryd.prog 24 := enters_of Tryd.func24 (by kernel_rfl) (by kernel_rfl)
theorem en_25 : Enters Tryd.prog 25 := enters_of Tryd.func25 (by kernel_rfl) (by kernel_rfl)
theorem en_26 : Enters Tryd.prog 26 := enters_of Tryd.func26 (by kernel_rfl) (by kernel_rfl)
theorem en_27 : Enters Tryd.prog 27 := enters_of Tryd.func27 (by kernel_rfl) (by kernel_rfl)
theorem en_28 : Enters Tryd.prog 28 := enters_of Tryd.func28 (by kernel_rfl) (by kernel_rfl)
theorem en_29 : Enters Tryd.prog 29 := enters_of Tryd.func29 (by kernel_rfl) (by kernel_rfl)
theorem en_30 : Enters Tryd.prog 30 := enters_of Tryd.func30 (by kernel_rfl) (by kernel_rfl)
theorem en_31 : Enters Tryd.prog 31 := enters_of Tryd.func31 (by kernel_rfl) (by kernel_rfl)
theorem en_32 : Enters Tryd.prog 32 := enters_of Tryd.func32 (by kernel_rfl) (by kernel_rfl)
theorem en_33 : Enters Tryd.prog 33 := enters_of Tryd.func33 (by kernel_rfl) (by kernel_rfl)
theorem en_34 : Enters Tryd.prog 34 := enters_of Tryd.func34 (by kernel_rfl) (by kernel_rfl)
theorem en_35 : Enters Tryd.prog 35 := enters_of Tryd.func35 (by kernel_rfl) (by kernel_rfl)
theorem en_36 : Enters Tryd.prog 36 := enters_of Tryd.func36 (by kernel_rfl) (by kernel_rfl)
theorem en_37 : Enters Tryd.prog 37 := enters_of Tryd.func37 (by kernel_rfl) (by kernel_rfl)
theorem en_38 : Enters Tryd.prog 38 := enters_of Tryd.func38 (by kernel_rfl) (by kernel_rfl)
theorem en_39 : Enters Tryd.prog 39 := enters_of Tryd.func39 (by kernel_rfl) (by kernel_rfl)
theorem en_40 : Enters Tryd.prog 40 := enters_of Tryd.func40 (by kernel_rfl) (by kernel_rfl)
theorem en_41 : Enters Tryd.prog 41 := enters_of Tryd.func41 (by kernel_rfl) (by kernel_rfl)
theorem en_42 : Enters Tryd.prog 42 := enters_of Tryd.func42 (by kernel_rfl) (by kernel_rfl)
theorem en_43 : Enters Tryd.prog 43 := enters_of Tryd.func43 (by kernel_rfl) (by kernel_rfl)
theorem en_44 : Enters Tryd.prog 44 := enters_of Tryd.func44 (by kernel_rfl) (by kernel_rfl)
theorem en_45 : Enters Tryd.prog 45 := enters_of Tryd.func45 (by kernel_rfl) (by kernel_rfl)
theorem en_46 : Enters Tryd.prog 46 := enters_of Tryd.func46 (by kernel_rfl) (by kernel_rfl)
theorem en_47 : Enters Tryd.prog 47 := enters_of Tryd.func47 (by kernel_rfl) (by kernel_rfl)
theorem bl_sealskinlaw17_Do_2 (a0 : Value) (h0 : a0.oneCell' = true := by first | rfl | assumption) : ∀ w, (Instr.build 26 #[(2, a0)]).run Tryd.prog w = .ok (.agg #[.int .i64 0, .int .i64 0, a0]) w := by
  (cases a0 <;> first | (cases h0; done) | skip) <;> (intro w; kernel_rfl)
theorem bs_string_1 (a0 : Value) (h0 : a0.oneCell' = true := by first | rfl | assumption) : ∀ w : World, (Instr.buildSlice 45 1 #[(0, a0)]).run Tryd.prog w = .ok (.slice (some ⟨w.heap.size, 0, none⟩) 1 1) (w.alloc (.cells [a0].toArray 9 (0, 0))) := by
  (cases a0 <;> first | (cases h0; done) | skip) <;> (intro w; kernel_rfl)
theorem bl_undo_History_23 (a0 : Value) (a1 : Value) (h0 : a0.oneCell' = true := by first | rfl | assumption) (h1 : a1.oneCell' = true := by first | rfl | assumption) : ∀ w, (Instr.build 66 #[(2, a0), (3, a1)]).run Tryd.prog w = .ok (.agg #[.slice none 0 0, .slice none 0 0, a0, a1]) w := by
  (cases a0 <;> first | (cases h0; done) | skip) <;> (cases a1 <;> first | (cases h1; done) | skip) <;> (intro w; kernel_rfl)
theorem bs_o_pile_1 (a0 : Value) (h0 : a0.oneCell' = true := by first | rfl | assumption) : ∀ w : World, (Instr.buildSlice 64 1 #[(0, a0)]).run Tryd.prog w = .ok (.slice (some ⟨w.heap.size, 0, none⟩) 1 1) (w.alloc (.cells [a0].toArray 23 (0, 0))) := by
  (cases a0 <;> first | (cases h0; done) | skip) <;> (intro w; kernel_rfl)
theorem bl_api_Part_012 (a0 : Int) (a1 : Int) (a2 : ByteArray)  : ∀ w, (Instr.build 50 #[(0, (.int .i64 a0)), (1, (.int .i64 a1)), (2, (.string a2))]).run Tryd.prog w = .ok (.agg #[(.int .i64 a0), (.int .i64 a1), (.string a2)]) w := by
  (intro w; kernel_rfl)
theorem bl_api_Part_01 (a0 : Value) (a1 : Value) (h0 : a0.oneCell' = true := by first | rfl | assumption) (h1 : a1.oneCell' = true := by first | rfl | assumption) : ∀ w, (Instr.build 50 #[(0, a0), (1, a1)]).run Tryd.prog w = .ok (.agg #[a0, a1, .string ⟨#[]⟩]) w := by
  (cases a0 <;> first | (cases h0; done) | skip) <;> (cases a1 <;> first | (cases h1; done) | skip) <;> (intro w; kernel_rfl)
theorem bl_edit_walk_0 (a0 : Value) (h0 : a0.oneCell' = true := by first | rfl | assumption) : ∀ w, (Instr.build 93 #[(0, a0)]).run Tryd.prog w = .ok (.agg #[a0, .slice none 0 0]) w := by
  (cases a0 <;> first | (cases h0; done) | skip) <;> (intro w; kernel_rfl)
theorem bs_o_pile_0   : ∀ w : World, (Instr.buildSlice 64 0 #[]).run Tryd.prog w = .ok (.slice (some ⟨w.heap.size, 0, none⟩) 0 0) (w.alloc (.cells [].toArray 23 (0, 0))) := by
  (intro w; kernel_rfl)
theorem bl_utf8_acceptRange_01 (a0 : Value) (a1 : Value) (h0 : a0.oneCell' = true := by first | rfl | assumption) (h1 : a1.oneCell' = true := by first | rfl | assumption) : ∀ w, (Instr.build 54 #[(0, a0), (1, a1)]).run Tryd.prog w = .ok (.agg #[a0, a1]) w := by
  (cases a0 <;> first | (cases h0; done) | skip) <;> (cases a1 <;> first | (cases h1; done) | skip) <;> (intro w; kernel_rfl)
end Go.SK
