/- Closed facts on the program of this seat: types, zero values, functions. Written by a program (gotypes.py). No statement of the claim stands here. -/
import Derived.Test.YtddjkiefadiijaaProg
import Derived.Test.YtddjkiefadiijaaRecs
import Derived.KernelRfl
namespace Go.Proofs.Ytddjkiefadiijaa
open Go Go.RowKit
theorem ON1 : One Try.prog 1 := ⟨fun w => by kernel_rfl, fun w => by kernel_rfl⟩
theorem ZR1 : Zer Try.prog 1 (.nilFunc) := fun w => by kernel_rfl
theorem ON2 : One Try.prog 2 := ⟨fun w => by kernel_rfl, fun w => by kernel_rfl⟩
theorem ZR2 : Zer Try.prog 2 (.int .i64 0) := fun w => by kernel_rfl
theorem ON3 : One Try.prog 3 := ⟨fun w => by kernel_rfl, fun w => by kernel_rfl⟩
theorem ZR3 : Zer Try.prog 3 (.int .i64 0) := fun w => by kernel_rfl
theorem ON4 : One Try.prog 4 := ⟨fun w => by kernel_rfl, fun w => by kernel_rfl⟩
theorem ZR4 : Zer Try.prog 4 (.bool false) := fun w => by kernel_rfl
theorem ON5 : One Try.prog 5 := ⟨fun w => by kernel_rfl, fun w => by kernel_rfl⟩
theorem ZR5 : Zer Try.prog 5 (.int .u8 0) := fun w => by kernel_rfl
theorem ON6 : One Try.prog 6 := ⟨fun w => by kernel_rfl, fun w => by kernel_rfl⟩
theorem ZR6 : Zer Try.prog 6 (.int .u8 0) := fun w => by kernel_rfl
theorem ON12 : One Try.prog 12 := ⟨fun w => by kernel_rfl, fun w => by kernel_rfl⟩
theorem ZR12 : Zer Try.prog 12 (.int .u64 0) := fun w => by kernel_rfl
theorem ON15 : One Try.prog 15 := ⟨fun w => by kernel_rfl, fun w => by kernel_rfl⟩
theorem ZR15 : Zer Try.prog 15 (.pointer none) := fun w => by kernel_rfl
theorem ON16 : One Try.prog 16 := ⟨fun w => by kernel_rfl, fun w => by kernel_rfl⟩
theorem ZR16 : Zer Try.prog 16 (.pointer none) := fun w => by kernel_rfl
theorem ON17 : One Try.prog 17 := ⟨fun w => by kernel_rfl, fun w => by kernel_rfl⟩
theorem ZR17 : Zer Try.prog 17 (.pointer none) := fun w => by kernel_rfl
theorem ON21 : One Try.prog 21 := ⟨fun w => by kernel_rfl, fun w => by kernel_rfl⟩
theorem ZR21 : Zer Try.prog 21 (.int .i32 0) := fun w => by kernel_rfl
theorem SL22 : ElT Try.prog 22 64 2 32 (.agg #[.slice none 0 0, .int .i64 0]) := ⟨by kernel_rfl, info_parts (by kernel_rfl), rfl, by decide⟩
theorem ON22 : One Try.prog 22 := ⟨fun w => by kernel_rfl, fun w => by kernel_rfl⟩
theorem ZR22 : Zer Try.prog 22 (.slice none 0 0) := fun w => by kernel_rfl
theorem SL23 : ElT Try.prog 23 3 1 8 (.int .i64 0) := ⟨by kernel_rfl, info_parts (by kernel_rfl), rfl, by decide⟩
theorem ON23 : One Try.prog 23 := ⟨fun w => by kernel_rfl, fun w => by kernel_rfl⟩
theorem ZR23 : Zer Try.prog 23 (.slice none 0 0) := fun w => by kernel_rfl
theorem ON24 : One Try.prog 24 := ⟨fun w => by kernel_rfl, fun w => by kernel_rfl⟩
theorem ZR24 : Zer Try.prog 24 (.nilFunc) := fun w => by kernel_rfl
theorem ON26 : One Try.prog 26 := ⟨fun w => by kernel_rfl, fun w => by kernel_rfl⟩
theorem ZR26 : Zer Try.prog 26 (.nilFunc) := fun w => by kernel_rfl
theorem SL27 : ElT Try.prog 27 54 2 32 (.agg #[.slice none 0 0, .int .i64 0]) := ⟨by kernel_rfl, info_parts (by kernel_rfl), rfl, by decide⟩
theorem ON27 : One Try.prog 27 := ⟨fun w => by kernel_rfl, fun w => by kernel_rfl⟩
theorem ZR27 : Zer Try.prog 27 (.slice none 0 0) := fun w => by kernel_rfl
theorem ON28 : One Try.prog 28 := ⟨fun w => by kernel_rfl, fun w => by kernel_rfl⟩
theorem ZR28 : Zer Try.prog 28 (.nilFunc) := fun w => by kernel_rfl
theorem ON29 : One Try.prog 29 := ⟨fun w => by kernel_rfl, fun w => by kernel_rfl⟩
theorem ZR29 : Zer Try.prog 29 (.nilFunc) := fun w => by kernel_rfl
theorem ON30 : One Try.prog 30 := ⟨fun w => by kernel_rfl, fun w => by kernel_rfl⟩
theorem ZR30 : Zer Try.prog 30 (.nilFunc) := fun w => by kernel_rfl
theorem ON31 : One Try.prog 31 := ⟨fun w => by kernel_rfl, fun w => by kernel_rfl⟩
theorem ZR31 : Zer Try.prog 31 (.nilFunc) := fun w => by kernel_rfl
theorem ON32 : One Try.prog 32 := ⟨fun w => by kernel_rfl, fun w => by kernel_rfl⟩
theorem ZR32 : Zer Try.prog 32 (.nilFunc) := fun w => by kernel_rfl
theorem ON33 : One Try.prog 33 := ⟨fun w => by kernel_rfl, fun w => by kernel_rfl⟩
theorem ZR33 : Zer Try.prog 33 (.nilFunc) := fun w => by kernel_rfl
theorem ON34 : One Try.prog 34 := ⟨fun w => by kernel_rfl, fun w => by kernel_rfl⟩
theorem ZR34 : Zer Try.prog 34 (.nilFunc) := fun w => by kernel_rfl
theorem ON35 : One Try.prog 35 := ⟨fun w => by kernel_rfl, fun w => by kernel_rfl⟩
theorem ZR35 : Zer Try.prog 35 (.nilFunc) := fun w => by kernel_rfl
theorem ON36 : One Try.prog 36 := ⟨fun w => by kernel_rfl, fun w => by kernel_rfl⟩
theorem ZR36 : Zer Try.prog 36 (.nilFunc) := fun w => by kernel_rfl
theorem SL37 : ElT Try.prog 37 23 1 24 (.slice none 0 0) := ⟨by kernel_rfl, info_parts (by kernel_rfl), rfl, by decide⟩
theorem ON37 : One Try.prog 37 := ⟨fun w => by kernel_rfl, fun w => by kernel_rfl⟩
theorem ZR37 : Zer Try.prog 37 (.slice none 0 0) := fun w => by kernel_rfl
theorem ON38 : One Try.prog 38 := ⟨fun w => by kernel_rfl, fun w => by kernel_rfl⟩
theorem ZR38 : Zer Try.prog 38 (.nilFunc) := fun w => by kernel_rfl
theorem ON39 : One Try.prog 39 := ⟨fun w => by kernel_rfl, fun w => by kernel_rfl⟩
theorem ZR39 : Zer Try.prog 39 (.nilFunc) := fun w => by kernel_rfl
theorem ON40 : One Try.prog 40 := ⟨fun w => by kernel_rfl, fun w => by kernel_rfl⟩
theorem ZR40 : Zer Try.prog 40 (.nilFunc) := fun w => by kernel_rfl
theorem ON41 : One Try.prog 41 := ⟨fun w => by kernel_rfl, fun w => by kernel_rfl⟩
theorem ZR41 : Zer Try.prog 41 (.nilFunc) := fun w => by kernel_rfl
theorem ON42 : One Try.prog 42 := ⟨fun w => by kernel_rfl, fun w => by kernel_rfl⟩
theorem ZR42 : Zer Try.prog 42 (.nilFunc) := fun w => by kernel_rfl
theorem ON43 : One Try.prog 43 := ⟨fun w => by kernel_rfl, fun w => by kernel_rfl⟩
theorem ZR43 : Zer Try.prog 43 (.nilFunc) := fun w => by kernel_rfl
theorem ON45 : One Try.prog 45 := ⟨fun w => by kernel_rfl, fun w => by kernel_rfl⟩
theorem ZR45 : Zer Try.prog 45 (.nilFunc) := fun w => by kernel_rfl
theorem SL46 : ElT Try.prog 46 5 1 1 (.int .u8 0) := ⟨by kernel_rfl, info_parts (by kernel_rfl), rfl, by decide⟩
theorem ON46 : One Try.prog 46 := ⟨fun w => by kernel_rfl, fun w => by kernel_rfl⟩
theorem ZR46 : Zer Try.prog 46 (.slice none 0 0) := fun w => by kernel_rfl
theorem ON47 : One Try.prog 47 := ⟨fun w => by kernel_rfl, fun w => by kernel_rfl⟩
theorem ZR47 : Zer Try.prog 47 (.nilFunc) := fun w => by kernel_rfl
theorem ON49 : One Try.prog 49 := ⟨fun w => by kernel_rfl, fun w => by kernel_rfl⟩
theorem ZR49 : Zer Try.prog 49 (.nilFunc) := fun w => by kernel_rfl
theorem ON50 : One Try.prog 50 := ⟨fun w => by kernel_rfl, fun w => by kernel_rfl⟩
theorem ZR50 : Zer Try.prog 50 (.nilFunc) := fun w => by kernel_rfl
theorem ON51 : One Try.prog 51 := ⟨fun w => by kernel_rfl, fun w => by kernel_rfl⟩
theorem ZR51 : Zer Try.prog 51 (.nilFunc) := fun w => by kernel_rfl
theorem ON52 : One Try.prog 52 := ⟨fun w => by kernel_rfl, fun w => by kernel_rfl⟩
theorem ZR52 : Zer Try.prog 52 (.nilFunc) := fun w => by kernel_rfl
theorem AG53 : Agg Try.prog 53 2 := ⟨fun w => by kernel_rfl, fun w => by kernel_rfl⟩
theorem ZR53 : Zer Try.prog 53 (.agg #[.slice none 0 0, .int .i64 0]) := fun w => by kernel_rfl
theorem FL53_0 : fldOf Try.prog 53 0 = some (0, 23) := by kernel_rfl
theorem FL53_1 : fldOf Try.prog 53 1 = some (1, 3) := by kernel_rfl
theorem AG54 : Agg Try.prog 54 2 := ⟨fun w => by kernel_rfl, fun w => by kernel_rfl⟩
theorem ZR54 : Zer Try.prog 54 (.agg #[.slice none 0 0, .int .i64 0]) := fun w => by kernel_rfl
theorem FL54_0 : fldOf Try.prog 54 0 = some (0, 23) := by kernel_rfl
theorem FL54_1 : fldOf Try.prog 54 1 = some (1, 3) := by kernel_rfl
theorem ON55 : One Try.prog 55 := ⟨fun w => by kernel_rfl, fun w => by kernel_rfl⟩
theorem ZR55 : Zer Try.prog 55 (.nilFunc) := fun w => by kernel_rfl
theorem ON56 : One Try.prog 56 := ⟨fun w => by kernel_rfl, fun w => by kernel_rfl⟩
theorem ZR56 : Zer Try.prog 56 (.nilFunc) := fun w => by kernel_rfl
theorem ON57 : One Try.prog 57 := ⟨fun w => by kernel_rfl, fun w => by kernel_rfl⟩
theorem ZR57 : Zer Try.prog 57 (.nilFunc) := fun w => by kernel_rfl
theorem ON59 : One Try.prog 59 := ⟨fun w => by kernel_rfl, fun w => by kernel_rfl⟩
theorem ZR59 : Zer Try.prog 59 (.nilFunc) := fun w => by kernel_rfl
theorem ON60 : One Try.prog 60 := ⟨fun w => by kernel_rfl, fun w => by kernel_rfl⟩
theorem ZR60 : Zer Try.prog 60 (.nilFunc) := fun w => by kernel_rfl
theorem ON61 : One Try.prog 61 := ⟨fun w => by kernel_rfl, fun w => by kernel_rfl⟩
theorem ZR61 : Zer Try.prog 61 (.nilFunc) := fun w => by kernel_rfl
theorem ON62 : One Try.prog 62 := ⟨fun w => by kernel_rfl, fun w => by kernel_rfl⟩
theorem ZR62 : Zer Try.prog 62 (.nilFunc) := fun w => by kernel_rfl
theorem ON63 : One Try.prog 63 := ⟨fun w => by kernel_rfl, fun w => by kernel_rfl⟩
theorem ZR63 : Zer Try.prog 63 (.nilFunc) := fun w => by kernel_rfl
theorem AG64 : Agg Try.prog 64 2 := ⟨fun w => by kernel_rfl, fun w => by kernel_rfl⟩
theorem ZR64 : Zer Try.prog 64 (.agg #[.slice none 0 0, .int .i64 0]) := fun w => by kernel_rfl
theorem FL64_0 : fldOf Try.prog 64 0 = some (0, 23) := by kernel_rfl
theorem FL64_1 : fldOf Try.prog 64 1 = some (1, 3) := by kernel_rfl
theorem ON65 : One Try.prog 65 := ⟨fun w => by kernel_rfl, fun w => by kernel_rfl⟩
theorem ZR65 : Zer Try.prog 65 (.nilFunc) := fun w => by kernel_rfl
theorem ON66 : One Try.prog 66 := ⟨fun w => by kernel_rfl, fun w => by kernel_rfl⟩
theorem ZR66 : Zer Try.prog 66 (.nilFunc) := fun w => by kernel_rfl
theorem ON67 : One Try.prog 67 := ⟨fun w => by kernel_rfl, fun w => by kernel_rfl⟩
theorem ZR67 : Zer Try.prog 67 (.nilFunc) := fun w => by kernel_rfl
theorem ON68 : One Try.prog 68 := ⟨fun w => by kernel_rfl, fun w => by kernel_rfl⟩
theorem ZR68 : Zer Try.prog 68 (.nilFunc) := fun w => by kernel_rfl
theorem ON69 : One Try.prog 69 := ⟨fun w => by kernel_rfl, fun w => by kernel_rfl⟩
theorem ZR69 : Zer Try.prog 69 (.nilFunc) := fun w => by kernel_rfl
theorem ON70 : One Try.prog 70 := ⟨fun w => by kernel_rfl, fun w => by kernel_rfl⟩
theorem ZR70 : Zer Try.prog 70 (.nilFunc) := fun w => by kernel_rfl
theorem ON72 : One Try.prog 72 := ⟨fun w => by kernel_rfl, fun w => by kernel_rfl⟩
theorem ZR72 : Zer Try.prog 72 (.nilFunc) := fun w => by kernel_rfl
theorem ON73 : One Try.prog 73 := ⟨fun w => by kernel_rfl, fun w => by kernel_rfl⟩
theorem ZR73 : Zer Try.prog 73 (.nilFunc) := fun w => by kernel_rfl
theorem ON74 : One Try.prog 74 := ⟨fun w => by kernel_rfl, fun w => by kernel_rfl⟩
theorem ZR74 : Zer Try.prog 74 (.nilFunc) := fun w => by kernel_rfl
theorem SL75 : ElT Try.prog 75 37 1 24 (.slice none 0 0) := ⟨by kernel_rfl, info_parts (by kernel_rfl), rfl, by decide⟩
theorem ON75 : One Try.prog 75 := ⟨fun w => by kernel_rfl, fun w => by kernel_rfl⟩
theorem ZR75 : Zer Try.prog 75 (.slice none 0 0) := fun w => by kernel_rfl
theorem ON77 : One Try.prog 77 := ⟨fun w => by kernel_rfl, fun w => by kernel_rfl⟩
theorem ZR77 : Zer Try.prog 77 (.nilFunc) := fun w => by kernel_rfl
theorem ON78 : One Try.prog 78 := ⟨fun w => by kernel_rfl, fun w => by kernel_rfl⟩
theorem ZR78 : Zer Try.prog 78 (.pointer none) := fun w => by kernel_rfl
theorem ON79 : One Try.prog 79 := ⟨fun w => by kernel_rfl, fun w => by kernel_rfl⟩
theorem ZR79 : Zer Try.prog 79 (.nilFunc) := fun w => by kernel_rfl
theorem ON80 : One Try.prog 80 := ⟨fun w => by kernel_rfl, fun w => by kernel_rfl⟩
theorem ZR80 : Zer Try.prog 80 (.nilFunc) := fun w => by kernel_rfl
theorem ON81 : One Try.prog 81 := ⟨fun w => by kernel_rfl, fun w => by kernel_rfl⟩
theorem ZR81 : Zer Try.prog 81 (.nilFunc) := fun w => by kernel_rfl
theorem ON82 : One Try.prog 82 := ⟨fun w => by kernel_rfl, fun w => by kernel_rfl⟩
theorem ZR82 : Zer Try.prog 82 (.nilFunc) := fun w => by kernel_rfl
theorem ON83 : One Try.prog 83 := ⟨fun w => by kernel_rfl, fun w => by kernel_rfl⟩
theorem ZR83 : Zer Try.prog 83 (.nilFunc) := fun w => by kernel_rfl
theorem ON84 : One Try.prog 84 := ⟨fun w => by kernel_rfl, fun w => by kernel_rfl⟩
theorem ZR84 : Zer Try.prog 84 (.nilFunc) := fun w => by kernel_rfl
theorem ON85 : One Try.prog 85 := ⟨fun w => by kernel_rfl, fun w => by kernel_rfl⟩
theorem ZR85 : Zer Try.prog 85 (.nilFunc) := fun w => by kernel_rfl
theorem ON86 : One Try.prog 86 := ⟨fun w => by kernel_rfl, fun w => by kernel_rfl⟩
theorem ZR86 : Zer Try.prog 86 (.nilFunc) := fun w => by kernel_rfl
theorem ON87 : One Try.prog 87 := ⟨fun w => by kernel_rfl, fun w => by kernel_rfl⟩
theorem ZR87 : Zer Try.prog 87 (.nilFunc) := fun w => by kernel_rfl
theorem AG88 : Agg Try.prog 88 3 := ⟨fun w => by kernel_rfl, fun w => by kernel_rfl⟩
theorem ZR88 : Zer Try.prog 88 (.agg #[.slice none 0 0, .int .i64 0, .int .i64 0]) := fun w => by kernel_rfl
theorem FL88_0 : fldOf Try.prog 88 0 = some (0, 46) := by kernel_rfl
theorem FL88_1 : fldOf Try.prog 88 1 = some (1, 3) := by kernel_rfl
theorem FL88_2 : fldOf Try.prog 88 2 = some (2, 3) := by kernel_rfl
theorem AG89 : Agg Try.prog 89 3 := ⟨fun w => by kernel_rfl, fun w => by kernel_rfl⟩
theorem ZR89 : Zer Try.prog 89 (.agg #[.slice none 0 0, .int .i64 0, .int .i64 0]) := fun w => by kernel_rfl
theorem FL89_0 : fldOf Try.prog 89 0 = some (0, 46) := by kernel_rfl
theorem FL89_1 : fldOf Try.prog 89 1 = some (1, 3) := by kernel_rfl
theorem FL89_2 : fldOf Try.prog 89 2 = some (2, 3) := by kernel_rfl
theorem ON90 : One Try.prog 90 := ⟨fun w => by kernel_rfl, fun w => by kernel_rfl⟩
theorem ZR90 : Zer Try.prog 90 (.nilFunc) := fun w => by kernel_rfl
theorem ON91 : One Try.prog 91 := ⟨fun w => by kernel_rfl, fun w => by kernel_rfl⟩
theorem ZR91 : Zer Try.prog 91 (.nilFunc) := fun w => by kernel_rfl
theorem ON92 : One Try.prog 92 := ⟨fun w => by kernel_rfl, fun w => by kernel_rfl⟩
theorem ZR92 : Zer Try.prog 92 (.nilFunc) := fun w => by kernel_rfl
theorem ON93 : One Try.prog 93 := ⟨fun w => by kernel_rfl, fun w => by kernel_rfl⟩
theorem ZR93 : Zer Try.prog 93 (.int .u64 0) := fun w => by kernel_rfl
theorem ON94 : One Try.prog 94 := ⟨fun w => by kernel_rfl, fun w => by kernel_rfl⟩
theorem ZR94 : Zer Try.prog 94 (.nilFunc) := fun w => by kernel_rfl
theorem ON100 : One Try.prog 100 := ⟨fun w => by kernel_rfl, fun w => by kernel_rfl⟩
theorem ZR100 : Zer Try.prog 100 (.nilFunc) := fun w => by kernel_rfl
theorem ON101 : One Try.prog 101 := ⟨fun w => by kernel_rfl, fun w => by kernel_rfl⟩
theorem ZR101 : Zer Try.prog 101 (.int .u32 0) := fun w => by kernel_rfl
theorem ON102 : One Try.prog 102 := ⟨fun w => by kernel_rfl, fun w => by kernel_rfl⟩
theorem ZR102 : Zer Try.prog 102 (.int .u8 0) := fun w => by kernel_rfl
theorem ON103 : One Try.prog 103 := ⟨fun w => by kernel_rfl, fun w => by kernel_rfl⟩
theorem ZR103 : Zer Try.prog 103 (.int .u8 0) := fun w => by kernel_rfl
theorem ON104 : One Try.prog 104 := ⟨fun w => by kernel_rfl, fun w => by kernel_rfl⟩
theorem ZR104 : Zer Try.prog 104 (.nilFunc) := fun w => by kernel_rfl
theorem ON105 : One Try.prog 105 := ⟨fun w => by kernel_rfl, fun w => by kernel_rfl⟩
theorem ZR105 : Zer Try.prog 105 (.pointer none) := fun w => by kernel_rfl
theorem ON106 : One Try.prog 106 := ⟨fun w => by kernel_rfl, fun w => by kernel_rfl⟩
theorem ZR106 : Zer Try.prog 106 (.int .i32 0) := fun w => by kernel_rfl
theorem ON107 : One Try.prog 107 := ⟨fun w => by kernel_rfl, fun w => by kernel_rfl⟩
theorem ZR107 : Zer Try.prog 107 (.int .i32 0) := fun w => by kernel_rfl
theorem UB : Try.prog.underlying 4 = some .bool := by kernel_rfl
theorem MIX : Try.prog.follows .mixedOrders = true := by kernel_rfl
theorem CF3 : CallF Try.prog 3 := fun args w => by kernel_rfl
theorem CF4 : CallF Try.prog 4 := fun args w => by kernel_rfl
theorem CF5 : CallF Try.prog 5 := fun args w => by kernel_rfl
theorem CF6 : CallF Try.prog 6 := fun args w => by kernel_rfl
theorem CF7 : CallF Try.prog 7 := fun args w => by kernel_rfl
theorem CF8 : CallF Try.prog 8 := fun args w => by kernel_rfl
theorem CF9 : CallF Try.prog 9 := fun args w => by kernel_rfl
theorem CF10 : CallF Try.prog 10 := fun args w => by kernel_rfl
theorem CF11 : CallF Try.prog 11 := fun args w => by kernel_rfl
theorem CF12 : CallF Try.prog 12 := fun args w => by kernel_rfl
theorem CF13 : CallF Try.prog 13 := fun args w => by kernel_rfl
theorem CF14 : CallF Try.prog 14 := fun args w => by kernel_rfl
theorem CF15 : CallF Try.prog 15 := fun args w => by kernel_rfl
theorem CF16 : CallF Try.prog 16 := fun args w => by kernel_rfl
theorem CF17 : CallF Try.prog 17 := fun args w => by kernel_rfl
theorem CF18 : CallF Try.prog 18 := fun args w => by kernel_rfl
theorem CF19 : CallF Try.prog 19 := fun args w => by kernel_rfl
theorem CF20 : CallF Try.prog 20 := fun args w => by kernel_rfl
theorem CF21 : CallF Try.prog 21 := fun args w => by kernel_rfl
theorem CF22 : CallF Try.prog 22 := fun args w => by kernel_rfl
theorem CF23 : CallF Try.prog 23 := fun args w => by kernel_rfl
theorem CF24 : CallF Try.prog 24 := fun args w => by kernel_rfl
theorem CF25 : CallF Try.prog 25 := fun args w => by kernel_rfl
theorem CF26 : CallF Try.prog 26 := fun args w => by kernel_rfl
theorem CF27 : CallF Try.prog 27 := fun args w => by kernel_rfl
theorem CF28 : CallF Try.prog 28 := fun args w => by kernel_rfl
theorem CF29 : CallF Try.prog 29 := fun args w => by kernel_rfl
theorem CF30 : CallF Try.prog 30 := fun args w => by kernel_rfl
theorem CF31 : CallF Try.prog 31 := fun args w => by kernel_rfl
theorem CF32 : CallF Try.prog 32 := fun args w => by kernel_rfl
theorem CF33 : CallF Try.prog 33 := fun args w => by kernel_rfl
theorem CF34 : CallF Try.prog 34 := fun args w => by kernel_rfl
theorem CF35 : CallF Try.prog 35 := fun args w => by kernel_rfl
theorem CF36 : CallF Try.prog 36 := fun args w => by kernel_rfl
theorem CF37 : CallF Try.prog 37 := fun args w => by kernel_rfl
theorem CF38 : CallF Try.prog 38 := fun args w => by kernel_rfl
theorem CF39 : CallF Try.prog 39 := fun args w => by kernel_rfl
theorem CF40 : CallF Try.prog 40 := fun args w => by kernel_rfl
theorem CF41 : CallF Try.prog 41 := fun args w => by kernel_rfl
theorem CF42 : CallF Try.prog 42 := fun args w => by kernel_rfl
theorem CF43 : CallF Try.prog 43 := fun args w => by kernel_rfl
theorem CF44 : CallF Try.prog 44 := fun args w => by kernel_rfl
theorem CF45 : CallF Try.prog 45 := fun args w => by kernel_rfl
theorem CF46 : CallF Try.prog 46 := fun args w => by kernel_rfl
theorem CF47 : CallF Try.prog 47 := fun args w => by kernel_rfl
theorem CF48 : CallF Try.prog 48 := fun args w => by kernel_rfl
theorem CF49 : CallF Try.prog 49 := fun args w => by kernel_rfl
theorem CF50 : CallF Try.prog 50 := fun args w => by kernel_rfl
theorem CF51 : CallF Try.prog 51 := fun args w => by kernel_rfl
theorem CF52 : CallF Try.prog 52 := fun args w => by kernel_rfl
theorem CF53 : CallF Try.prog 53 := fun args w => by kernel_rfl
theorem CF54 : CallF Try.prog 54 := fun args w => by kernel_rfl
theorem CF55 : CallF Try.prog 55 := fun args w => by kernel_rfl
theorem CF56 : CallF Try.prog 56 := fun args w => by kernel_rfl
theorem CF57 : CallF Try.prog 57 := fun args w => by kernel_rfl
theorem CF58 : CallF Try.prog 58 := fun args w => by kernel_rfl
theorem CF59 : CallF Try.prog 59 := fun args w => by kernel_rfl
theorem CF60 : CallF Try.prog 60 := fun args w => by kernel_rfl
theorem CF61 : CallF Try.prog 61 := fun args w => by kernel_rfl
theorem CF62 : CallF Try.prog 62 := fun args w => by kernel_rfl
theorem CF63 : CallF Try.prog 63 := fun args w => by kernel_rfl
theorem CF64 : CallF Try.prog 64 := fun args w => by kernel_rfl
theorem CF65 : CallF Try.prog 65 := fun args w => by kernel_rfl
theorem CF66 : CallF Try.prog 66 := fun args w => by kernel_rfl
theorem CF67 : CallF Try.prog 67 := fun args w => by kernel_rfl
theorem CF68 : CallF Try.prog 68 := fun args w => by kernel_rfl
theorem CF69 : CallF Try.prog 69 := fun args w => by kernel_rfl
theorem CF70 : CallF Try.prog 70 := fun args w => by kernel_rfl
theorem CF71 : CallF Try.prog 71 := fun args w => by kernel_rfl
theorem CF72 : CallF Try.prog 72 := fun args w => by kernel_rfl
theorem CF73 : CallF Try.prog 73 := fun args w => by kernel_rfl
theorem CF74 : CallF Try.prog 74 := fun args w => by kernel_rfl
theorem CF75 : CallF Try.prog 75 := fun args w => by kernel_rfl
theorem CF76 : CallF Try.prog 76 := fun args w => by kernel_rfl
theorem CF77 : CallF Try.prog 77 := fun args w => by kernel_rfl
theorem CF78 : CallF Try.prog 78 := fun args w => by kernel_rfl
theorem CF79 : CallF Try.prog 79 := fun args w => by kernel_rfl
theorem CF80 : CallF Try.prog 80 := fun args w => by kernel_rfl
theorem CF81 : CallF Try.prog 81 := fun args w => by kernel_rfl
theorem CF82 : CallF Try.prog 82 := fun args w => by kernel_rfl
theorem CF83 : CallF Try.prog 83 := fun args w => by kernel_rfl
theorem CF84 : CallF Try.prog 84 := fun args w => by kernel_rfl
theorem CF85 : CallF Try.prog 85 := fun args w => by kernel_rfl
theorem CF86 : CallF Try.prog 86 := fun args w => by kernel_rfl
theorem CF87 : CallF Try.prog 87 := fun args w => by kernel_rfl
theorem CF88 : CallF Try.prog 88 := fun args w => by kernel_rfl
theorem CF89 : CallF Try.prog 89 := fun args w => by kernel_rfl
theorem CF90 : CallF Try.prog 90 := fun args w => by kernel_rfl
theorem CF91 : CallF Try.prog 91 := fun args w => by kernel_rfl
theorem CF92 : CallF Try.prog 92 := fun args w => by kernel_rfl
theorem CF93 : CallF Try.prog 93 := fun args w => by kernel_rfl
theorem CF94 : CallF Try.prog 94 := fun args w => by kernel_rfl
theorem CF95 : CallF Try.prog 95 := fun args w => by kernel_rfl
theorem CF96 : CallF Try.prog 96 := fun args w => by kernel_rfl
theorem CF97 : CallF Try.prog 97 := fun args w => by kernel_rfl
theorem CF98 : CallF Try.prog 98 := fun args w => by kernel_rfl
theorem BD89_02 (a0 : Option Addr) (l0 c0 : Nat) (x2 : Int) : ∀ w, (Instr.build 89 #[(0, .slice a0 l0 c0), (2, .int .i64 x2)]).run Try.prog w = .ok (.agg #[.slice a0 l0 c0, .int .i64 0, .int .i64 x2]) w := fun w => by kernel_rfl
theorem BD54_1 (x1 : Int) : ∀ w, (Instr.build 54 #[(1, .int .i64 x1)]).run Try.prog w = .ok (.agg #[.slice none 0 0, .int .i64 x1]) w := fun w => by kernel_rfl
theorem BD54_01 (a0 : Option Addr) (l0 c0 : Nat) (x1 : Int) : ∀ w, (Instr.build 54 #[(0, .slice a0 l0 c0), (1, .int .i64 x1)]).run Try.prog w = .ok (.agg #[.slice a0 l0 c0, .int .i64 x1]) w := fun w => by kernel_rfl
end Go.Proofs.Ytddjkiefadiijaa
