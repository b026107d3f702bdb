/- Facts on this translation's types and functions, printed by a program of this session. -/
import Derived.Test.YtlbaebaimhbbfaaDoorMA
import Derived.Test.YtlbaebaimhbbfaaDoorProg
import Derived.KernelRfl
set_option maxRecDepth 100000
namespace Go.SK
open Go Go.Proofs
theorem mo : Tryd.prog.follows .mixedOrders = true := by kernel_rfl
theorem ts_int : TScal Tryd.prog 3 := ⟨fun w => by kernel_rfl, fun w => by kernel_rfl⟩
theorem un_int : Tryd.prog.underlying 3 = some (.int .i64) := Tryd.underlying3
theorem ts_bool : TScal Tryd.prog 4 := ⟨fun w => by kernel_rfl, fun w => by kernel_rfl⟩
theorem un_bool : Tryd.prog.underlying 4 = some .bool := Tryd.underlying4
theorem ts_uint8 : TScal Tryd.prog 5 := ⟨fun w => by kernel_rfl, fun w => by kernel_rfl⟩
theorem un_uint8 : Tryd.prog.underlying 5 = some (.int .u8) := Tryd.underlying5
theorem ts_string : TScal Tryd.prog 9 := ⟨fun w => by kernel_rfl, fun w => by kernel_rfl⟩
theorem un_string : Tryd.prog.underlying 9 = some .string := Tryd.underlying9
theorem un_int32 : Tryd.prog.underlying 21 = some (.int .i32) := Tryd.underlying21
theorem un_sl_sealskinlaw17_Do : Tryd.prog.underlying 22 = some (.slice 34) := Tryd.underlying22
theorem tsl_sealskinlaw17_Do : TSlice Tryd.prog 22 34 3 40 (.agg #[.int .i64 0, .int .i64 0, .slice none 0 0]) := ⟨Tryd.underlying22, by kernel_rfl, rfl⟩
theorem ts_sl_sl_api_Part : TScal Tryd.prog 29 := ⟨fun w => by kernel_rfl, fun w => by kernel_rfl⟩
theorem un_sl_sl_api_Part : Tryd.prog.underlying 29 = some (.slice 32) := Tryd.underlying29
theorem tsl_sl_api_Part : TSlice Tryd.prog 29 32 1 24 (.slice none 0 0) := ⟨Tryd.underlying29, by kernel_rfl, rfl⟩
theorem fld_sealskinref17_History_Back : TField Tryd.prog 31 0 0 := fun ad w => by kernel_rfl
theorem fld_sealskinref17_History_Again : TField Tryd.prog 31 1 1 := fun ad w => by kernel_rfl
theorem fld_sealskinref17_History_N : TField Tryd.prog 31 2 2 := fun ad w => by kernel_rfl
theorem ts_sl_api_Part : TScal Tryd.prog 32 := ⟨fun w => by kernel_rfl, fun w => by kernel_rfl⟩
theorem un_sl_api_Part : Tryd.prog.underlying 32 = some (.slice 38) := Tryd.underlying32
theorem tsl_api_Part : TSlice Tryd.prog 32 38 3 32 (.agg #[.int .i64 0, .int .i64 0, .string ⟨#[]⟩]) := ⟨Tryd.underlying32, by kernel_rfl, rfl⟩
theorem tst_sealskinlaw17_Do : TStruct Tryd.prog 34 3 := ⟨fun w => by kernel_rfl, fun w => by kernel_rfl⟩
theorem fld_sealskinlaw17_Do_Op : TField Tryd.prog 34 0 0 := fun ad w => by kernel_rfl
theorem fld_sealskinlaw17_Do_N : TField Tryd.prog 34 1 1 := fun ad w => by kernel_rfl
theorem fld_sealskinlaw17_Do_E : TField Tryd.prog 34 2 2 := fun ad w => by kernel_rfl
theorem tz_sealskinlaw17_Do : TZero Tryd.prog 34 (.agg #[.int .i64 0, .int .i64 0, .slice none 0 0]) := fun w => by kernel_rfl
theorem tst_api_Part : TStruct Tryd.prog 38 3 := ⟨fun w => by kernel_rfl, fun w => by kernel_rfl⟩
theorem fld_api_Part_Kind : TField Tryd.prog 38 0 0 := fun ad w => by kernel_rfl
theorem fld_api_Part_N : TField Tryd.prog 38 1 1 := fun ad w => by kernel_rfl
theorem fld_api_Part_Text : TField Tryd.prog 38 2 2 := fun ad w => by kernel_rfl
theorem tz_api_Part : TZero Tryd.prog 38 (.agg #[.int .i64 0, .int .i64 0, .string ⟨#[]⟩]) := fun w => by kernel_rfl
theorem un_uint : Tryd.prog.underlying 39 = some (.int .u64) := Tryd.underlying39
theorem ts_undo_pile : TScal Tryd.prog 60 := ⟨fun w => by kernel_rfl, fun w => by kernel_rfl⟩
theorem un_undo_pile : Tryd.prog.underlying 60 = some (.slice 32) := Tryd.underlying60
theorem tsl_o_pile : TSlice Tryd.prog 60 32 1 24 (.slice none 0 0) := ⟨Tryd.underlying60, by kernel_rfl, rfl⟩
theorem fld_undo_History_back : TField Tryd.prog 62 0 0 := fun ad w => by kernel_rfl
theorem fld_undo_History_again : TField Tryd.prog 62 1 1 := fun ad w => by kernel_rfl
theorem fld_undo_History_n : TField Tryd.prog 62 2 2 := fun ad w => by kernel_rfl
theorem fld_undo_History_made : TField Tryd.prog 62 3 3 := fun ad w => by kernel_rfl
theorem ts_sl_int32 : TScal Tryd.prog 74 := ⟨fun w => by kernel_rfl, fun w => by kernel_rfl⟩
theorem un_sl_int32 : Tryd.prog.underlying 74 = some (.slice 21) := Tryd.underlying74
theorem tsl_int32 : TSlice Tryd.prog 74 21 1 4 (.int .i32 0) := ⟨Tryd.underlying74, by kernel_rfl, rfl⟩
theorem fld_edit_maker_out : TField Tryd.prog 81 0 0 := fun ad w => by kernel_rfl
theorem tz_edit_maker : TZero Tryd.prog 81 (.agg #[.slice none 0 0]) := fun w => by kernel_rfl
theorem un_sl_uint8 : Tryd.prog.underlying 89 = some (.slice 5) := Tryd.underlying89
theorem tsl_uint8 : TSlice Tryd.prog 89 5 1 1 (.int .u8 0) := ⟨Tryd.underlying89, by kernel_rfl, rfl⟩
theorem ts_sl_string : TScal Tryd.prog 90 := ⟨fun w => by kernel_rfl, fun w => by kernel_rfl⟩
theorem un_sl_string : Tryd.prog.underlying 90 = some (.slice 9) := Tryd.underlying90
theorem tsl_string : TSlice Tryd.prog 90 9 1 16 (.string ⟨#[]⟩) := ⟨Tryd.underlying90, by kernel_rfl, rfl⟩
theorem ts_sl_bool : TScal Tryd.prog 91 := ⟨fun w => by kernel_rfl, fun w => by kernel_rfl⟩
theorem un_sl_bool : Tryd.prog.underlying 91 = some (.slice 4) := Tryd.underlying91
theorem tsl_bool : TSlice Tryd.prog 91 4 1 1 (.bool false) := ⟨Tryd.underlying91, by kernel_rfl, rfl⟩
theorem tst_sealskinref03_Wide : TStruct Tryd.prog 93 2 := ⟨fun w => by kernel_rfl, fun w => by kernel_rfl⟩
theorem fld_sealskinref03_Wide_Puts : TField Tryd.prog 93 0 0 := fun ad w => by kernel_rfl
theorem fld_sealskinref03_Wide_Drop : TField Tryd.prog 93 1 1 := fun ad w => by kernel_rfl
theorem tz_sealskinref03_Wide : TZero Tryd.prog 93 (.agg #[.slice none 0 0, .slice none 0 0]) := fun w => by kernel_rfl
theorem fld_edit_walk_l : TField Tryd.prog 115 0 0 := fun ad w => by kernel_rfl
theorem fld_edit_walk_text : TField Tryd.prog 115 1 1 := fun ad w => by kernel_rfl
theorem en_4 : Enters Tryd.prog 4 := enters_of Tryd.func4 (by kernel_rfl) (by kernel_rfl)
theorem en_5 : Enters Tryd.prog 5 := enters_of Tryd.func5 (by kernel_rfl) (by kernel_rfl)
theorem en_6 : Enters Tryd.prog 6 := enters_of Tryd.func6 (by kernel_rfl) (by kernel_rfl)
theorem en_7 : Enters Tryd.prog 7 := enters_of Tryd.func7 (by kernel_rfl) (by kernel_rfl)
theorem en_8 : Enters Tryd.prog 8 := enters_of Tryd.func8 (by kernel_rfl) (by kernel_rfl)
theorem en_9 : Enters Tryd.prog 9 := enters_of Tryd.func9 (by kernel_rfl) (by kernel_rfl)
theorem en_10 : Enters Tryd.prog 10 := enters_of Tryd.func10 (by kernel_rfl) (by kernel_rfl)
theorem en_11 : Enters Tryd.prog 11 := enters_of Tryd.func11 (by kernel_rfl) (by kernel_rfl)
theorem en_12 : Enters Tryd.prog 12 := enters_of Tryd.func12 (by kernel_rfl) (by kernel_rfl)
theorem en_13 : Enters Tryd.prog 13 := enters_of Tryd.func13 (by kernel_rfl) (by kernel_rfl)
theorem en_14 : Enters Tryd.prog 14 := enters_of Tryd.func14 (by kernel_rfl) (by kernel_rfl)
theorem en_15 : Enters Tryd.prog 15 := enters_of Tryd.func15 (by kernel_rfl) (by kernel_rfl)
theorem en_16 : Enters Tryd.prog 16 := enters_of Tryd.func16 (by kernel_rfl) (by kernel_rfl)
theorem en_17 : Enters Tryd.prog 17 := enters_of Tryd.func17 (by kernel_rfl) (by kernel_rfl)
theorem en_18 : Enters Tryd.prog 18 := enters_of Tryd.func18 (by kernel_rfl) (by kernel_rfl)
theorem en_19 : Enters Tryd.prog 19 := enters_of Tryd.func19 (by kernel_rfl) (by kernel_rfl)
theorem en_20 : Enters Tryd.prog 20 := enters_of Tryd.func20 (by kernel_rfl) (by kernel_rfl)
theorem en_21 : Enters Tryd.prog 21 := enters_of Tryd.func21 (by kernel_rfl) (by kernel_rfl)
theorem en_22 : Enters Tryd.prog 22 := enters_of Tryd.func22 (by kernel_rfl) (by kernel_rfl)
theorem en_23 : Enters Tryd.prog 23 := enters_of Tryd.func23 (by kernel_rfl) (by kernel_rfl)
theorem en_24 : Enters Tryd.prog 24 := enters_of Tryd.func24 (by kernel_rfl) (by kernel_rfl)
theorem en_25 : Enters Tryd.prog 25 := enters_of Tryd.func25 (by kernel_rfl) (by kernel_rfl)
theorem en_26 : Enters Tryd.prog 26 := enters_of Tryd.func26 (by kernel_rfl) (by kernel_rfl)
theorem en_27 : Enters Tryd.prog 27 := enters_of Tryd.func27 (by kernel_rfl) (by kernel_rfl)
theorem en_28 : Enters Tryd.prog 28 := enters_of Tryd.func28 (by kernel_rfl) (by kernel_rfl)
theorem en_29 : Enters Tryd.prog 29 := enters_of Tryd.func29 (by kernel_rfl) (by kernel_rfl)
theorem en_30 : Enters Tryd.prog 30 := enters_of Tryd.func30 (by kernel_rfl) (by kernel_rfl)
theorem en_31 : Enters Tryd.prog 31 := enters_of Tryd.func31 (by kernel_rfl) (by kernel_rfl)
theorem en_32 : Enters Tryd.prog 32 := enters_of Tryd.func32 (by kernel_rfl) (by kernel_rfl)
theorem en_33 : Enters Tryd.prog 33 := enters_of Tryd.func33 (by kernel_rfl) (by kernel_rfl)
theorem en_34 : Enters Tryd.prog 34 := enters_of Tryd.func34 (by kernel_rfl) (by kernel_rfl)
theorem en_35 : Enters Tryd.prog 35 := enters_of Tryd.func35 (by kernel_rfl) (by kernel_rfl)
theorem en_36 : Enters Tryd.prog 36 := enters_of Tryd.func36 (by kernel_rfl) (by kernel_rfl)
theorem en_37 : Enters Tryd.prog 37 := enters_of Tryd.func37 (by kernel_rfl) (by kernel_rfl)
theorem en_38 : Enters Tryd.prog 38 := enters_of Tryd.func38 (by kernel_rfl) (by kernel_rfl)
theorem en_39 : Enters Tryd.prog 39 := enters_of Tryd.func39 (by kernel_rfl) (by kernel_rfl)
theorem en_40 : Enters Tryd.prog 40 := enters_of Tryd.func40 (by kernel_rfl) (by kernel_rfl)
theorem en_41 : Enters Tryd.prog 41 := enters_of Tryd.func41 (by kernel_rfl) (by kernel_rfl)
theorem en_42 : Enters Tryd.prog 42 := enters_of Tryd.func42 (by kernel_rfl) (by kernel_rfl)
theorem en_43 : Enters Tryd.prog 43 := enters_of Tryd.func43 (by kernel_rfl) (by kernel_rfl)
theorem en_44 : Enters Tryd.prog 44 := enters_of Tryd.func44 (by kernel_rfl) (by kernel_rfl)
theorem en_45 : Enters Tryd.prog 45 := enters_of Tryd.func45 (by kernel_rfl) (by kernel_rfl)
theorem en_46 : Enters Tryd.prog 46 := enters_of Tryd.func46 (by kernel_rfl) (by kernel_rfl)
theorem en_47 : Enters Tryd.prog 47 := enters_of Tryd.func47 (by kernel_rfl) (by kernel_rfl)
theorem en_48 : Enters Tryd.prog 48 := enters_of Tryd.func48 (by kernel_rfl) (by kernel_rfl)
theorem en_49 : Enters Tryd.prog 49 := enters_of Tryd.func49 (by kernel_rfl) (by kernel_rfl)
theorem en_50 : Enters Tryd.prog 50 := enters_of Tryd.func50 (by kernel_rfl) (by kernel_rfl)
theorem en_51 : Enters Tryd.prog 51 := enters_of Tryd.func51 (by kernel_rfl) (by kernel_rfl)
theorem en_52 : Enters Tryd.prog 52 := enters_of Tryd.func52 (by kernel_rfl) (by kernel_rfl)
theorem en_53 : Enters Tryd.prog 53 := enters_of Tryd.func53 (by kernel_rfl) (by kernel_rfl)
theorem en_55 : Enters Tryd.prog 55 := enters_of Tryd.func55 (by kernel_rfl) (by kernel_rfl)
theorem en_56 : Enters Tryd.prog 56 := enters_of Tryd.func56 (by kernel_rfl) (by kernel_rfl)
theorem en_57 : Enters Tryd.prog 57 := enters_of Tryd.func57 (by kernel_rfl) (by kernel_rfl)
theorem en_58 : Enters Tryd.prog 58 := enters_of Tryd.func58 (by kernel_rfl) (by kernel_rfl)
theorem en_59 : Enters Tryd.prog 59 := enters_of Tryd.func59 (by kernel_rfl) (by kernel_rfl)
theorem en_60 : Enters Tryd.prog 60 := enters_of Tryd.func60 (by kernel_rfl) (by kernel_rfl)
theorem en_61 : Enters Tryd.prog 61 := enters_of Tryd.func61 (by kernel_rfl) (by kernel_rfl)
theorem en_62 : Enters Tryd.prog 62 := enters_of Tryd.func62 (by kernel_rfl) (by kernel_rfl)
theorem en_63 : Enters Tryd.prog 63 := enters_of Tryd.func63 (by kernel_rfl) (by kernel_rfl)
theorem en_64 : Enters Tryd.prog 64 := enters_of Tryd.func64 (by kernel_rfl) (by kernel_rfl)
theorem en_65 : Enters Tryd.prog 65 := enters_of Tryd.func65 (by kernel_rfl) (by kernel_rfl)
theorem en_66 : Enters Tryd.prog 66 := enters_of Tryd.func66 (by kernel_rfl) (by kernel_rfl)
theorem en_67 : Enters Tryd.prog 67 := enters_of Tryd.func67 (by kernel_rfl) (by kernel_rfl)
theorem en_68 : Enters Tryd.prog 68 := enters_of Tryd.func68 (by kernel_rfl) (by kernel_rfl)
theorem en_69 : Enters Tryd.prog 69 := enters_of Tryd.func69 (by kernel_rfl) (by kernel_rfl)
theorem en_70 : Enters Tryd.prog 70 := enters_of Tryd.func70 (by kernel_rfl) (by kernel_rfl)
theorem bl_sealskinref17_History_2 (a0 : Value) (h0 : a0.oneCell' = true := by first | rfl | assumption) : ∀ w, (Instr.build 31 #[(2, a0)]).run Tryd.prog w = .ok (.agg #[.slice none 0 0, .slice none 0 0, a0]) w := by
  (cases a0 <;> first | (cases h0; done) | skip) <;> (intro w; kernel_rfl)
theorem bl_undo_History_23 (a0 : Value) (a1 : Value) (h0 : a0.oneCell' = true := by first | rfl | assumption) (h1 : a1.oneCell' = true := by first | rfl | assumption) : ∀ w, (Instr.build 62 #[(2, a0), (3, a1)]).run Tryd.prog w = .ok (.agg #[.slice none 0 0, .slice none 0 0, a0, a1]) w := by
  (cases a0 <;> first | (cases h0; done) | skip) <;> (cases a1 <;> first | (cases h1; done) | skip) <;> (intro w; kernel_rfl)
theorem bs_o_pile_1 (a0 : Value) (h0 : a0.oneCell' = true := by first | rfl | assumption) : ∀ w : World, (Instr.buildSlice 60 1 #[(0, a0)]).run Tryd.prog w = .ok (.slice (some ⟨w.heap.size, 0, none⟩) 1 1) (w.alloc (.cells [a0].toArray 32 (0, 0))) := by
  (cases a0 <;> first | (cases h0; done) | skip) <;> (intro w; kernel_rfl)
theorem bs_string_1 (a0 : Value) (h0 : a0.oneCell' = true := by first | rfl | assumption) : ∀ w : World, (Instr.buildSlice 90 1 #[(0, a0)]).run Tryd.prog w = .ok (.slice (some ⟨w.heap.size, 0, none⟩) 1 1) (w.alloc (.cells [a0].toArray 9 (0, 0))) := by
  (cases a0 <;> first | (cases h0; done) | skip) <;> (intro w; kernel_rfl)
theorem bl_sealskinref03_Wide_0 (a0 : Value) (h0 : a0.oneCell' = true := by first | rfl | assumption) : ∀ w, (Instr.build 93 #[(0, a0)]).run Tryd.prog w = .ok (.agg #[a0, .slice none 0 0]) w := by
  (cases a0 <;> first | (cases h0; done) | skip) <;> (intro w; kernel_rfl)
theorem bs_bool_1 (a0 : Value) (h0 : a0.oneCell' = true := by first | rfl | assumption) : ∀ w : World, (Instr.buildSlice 91 1 #[(0, a0)]).run Tryd.prog w = .ok (.slice (some ⟨w.heap.size, 0, none⟩) 1 1) (w.alloc (.cells [a0].toArray 4 (0, 0))) := by
  (cases a0 <;> first | (cases h0; done) | skip) <;> (intro w; kernel_rfl)
theorem bs_sl_api_Part_1 (a0 : Value) (h0 : a0.oneCell' = true := by first | rfl | assumption) : ∀ w : World, (Instr.buildSlice 29 1 #[(0, a0)]).run Tryd.prog w = .ok (.slice (some ⟨w.heap.size, 0, none⟩) 1 1) (w.alloc (.cells [a0].toArray 32 (0, 0))) := by
  (cases a0 <;> first | (cases h0; done) | skip) <;> (intro w; kernel_rfl)
theorem bl_api_Part_012 (a0 : Int) (a1 : Int) (a2 : ByteArray)  : ∀ w, (Instr.build 38 #[(0, (.int .i64 a0)), (1, (.int .i64 a1)), (2, (.string a2))]).run Tryd.prog w = .ok (.agg #[(.int .i64 a0), (.int .i64 a1), (.string a2)]) w := by
  (intro w; kernel_rfl)
theorem bl_api_Part_01 (a0 : Value) (a1 : Value) (h0 : a0.oneCell' = true := by first | rfl | assumption) (h1 : a1.oneCell' = true := by first | rfl | assumption) : ∀ w, (Instr.build 38 #[(0, a0), (1, a1)]).run Tryd.prog w = .ok (.agg #[a0, a1, .string ⟨#[]⟩]) w := by
  (cases a0 <;> first | (cases h0; done) | skip) <;> (cases a1 <;> first | (cases h1; done) | skip) <;> (intro w; kernel_rfl)
theorem bs_o_pile_0   : ∀ w : World, (Instr.buildSlice 60 0 #[]).run Tryd.prog w = .ok (.slice (some ⟨w.heap.size, 0, none⟩) 0 0) (w.alloc (.cells [].toArray 32 (0, 0))) := by
  (intro w; kernel_rfl)
theorem bl_sealskinref03_Wide_01 (a0 : Value) (a1 : Value) (h0 : a0.oneCell' = true := by first | rfl | assumption) (h1 : a1.oneCell' = true := by first | rfl | assumption) : ∀ w, (Instr.build 93 #[(0, a0), (1, a1)]).run Tryd.prog w = .ok (.agg #[a0, a1]) w := by
  (cases a0 <;> first | (cases h0; done) | skip) <;> (cases a1 <;> first | (cases h1; done) | skip) <;> (intro w; kernel_rfl)
theorem bl_edit_walk_0 (a0 : Value) (h0 : a0.oneCell' = true := by first | rfl | assumption) : ∀ w, (Instr.build 115 #[(0, a0)]).run Tryd.prog w = .ok (.agg #[a0, .slice none 0 0]) w := by
  (cases a0 <;> first | (cases h0; done) | skip) <;> (intro w; kernel_rfl)
theorem bs_string_0   : ∀ w : World, (Instr.buildSlice 90 0 #[]).run Tryd.prog w = .ok (.slice (some ⟨w.heap.size, 0, none⟩) 0 0) (w.alloc (.cells [].toArray 9 (0, 0))) := by
  (intro w; kernel_rfl)
theorem bs_bool_0   : ∀ w : World, (Instr.buildSlice 91 0 #[]).run Tryd.prog w = .ok (.slice (some ⟨w.heap.size, 0, none⟩) 0 0) (w.alloc (.cells [].toArray 4 (0, 0))) := by
  (intro w; kernel_rfl)
end Go.SK
