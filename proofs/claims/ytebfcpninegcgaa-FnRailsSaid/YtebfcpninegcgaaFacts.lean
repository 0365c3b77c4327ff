/- Closed facts on the program of this seat: types, zero values, functions. Written by a program (gotypes.py). No statement of the claim stands here. -/
import Derived.Test.YtebfcpninegcgaaProg
import Derived.Test.YtebfcpninegcgaaRecs
import Derived.KernelRfl
namespace Go.Proofs.Ytebfcpninegcgaa
open Go Go.RowKit
theorem ON1 : One Try.prog 1 := ⟨fun w => by kernel_rfl, fun w => by kernel_rfl⟩
theorem ZR1 : Zer Try.prog 1 (.nilFunc) := fun w => by kernel_rfl
theorem ON2 : One Try.prog 2 := ⟨fun w => by kernel_rfl, fun w => by kernel_rfl⟩
theorem ZR2 : Zer Try.prog 2 (.int .i64 0) := fun w => by kernel_rfl
theorem ON3 : One Try.prog 3 := ⟨fun w => by kernel_rfl, fun w => by kernel_rfl⟩
theorem ZR3 : Zer Try.prog 3 (.int .i64 0) := fun w => by kernel_rfl
theorem ON4 : One Try.prog 4 := ⟨fun w => by kernel_rfl, fun w => by kernel_rfl⟩
theorem ZR4 : Zer Try.prog 4 (.bool false) := fun w => by kernel_rfl
theorem ON5 : One Try.prog 5 := ⟨fun w => by kernel_rfl, fun w => by kernel_rfl⟩
theorem ZR5 : Zer Try.prog 5 (.int .u8 0) := fun w => by kernel_rfl
theorem ON6 : One Try.prog 6 := ⟨fun w => by kernel_rfl, fun w => by kernel_rfl⟩
theorem ZR6 : Zer Try.prog 6 (.int .u8 0) := fun w => by kernel_rfl
theorem ON12 : One Try.prog 12 := ⟨fun w => by kernel_rfl, fun w => by kernel_rfl⟩
theorem ZR12 : Zer Try.prog 12 (.int .u64 0) := fun w => by kernel_rfl
theorem ON15 : One Try.prog 15 := ⟨fun w => by kernel_rfl, fun w => by kernel_rfl⟩
theorem ZR15 : Zer Try.prog 15 (.pointer none) := fun w => by kernel_rfl
theorem ON16 : One Try.prog 16 := ⟨fun w => by kernel_rfl, fun w => by kernel_rfl⟩
theorem ZR16 : Zer Try.prog 16 (.pointer none) := fun w => by kernel_rfl
theorem ON17 : One Try.prog 17 := ⟨fun w => by kernel_rfl, fun w => by kernel_rfl⟩
theorem ZR17 : Zer Try.prog 17 (.pointer none) := fun w => by kernel_rfl
theorem ON21 : One Try.prog 21 := ⟨fun w => by kernel_rfl, fun w => by kernel_rfl⟩
theorem ZR21 : Zer Try.prog 21 (.int .i32 0) := fun w => by kernel_rfl
theorem SL22 : ElT Try.prog 22 43 3 24 (.agg #[.int .i64 0, .int .i64 0, .int .i64 0]) := ⟨by kernel_rfl, info_parts (by kernel_rfl), rfl, by decide⟩
theorem ON22 : One Try.prog 22 := ⟨fun w => by kernel_rfl, fun w => by kernel_rfl⟩
theorem ZR22 : Zer Try.prog 22 (.slice none 0 0) := fun w => by kernel_rfl
theorem ON23 : One Try.prog 23 := ⟨fun w => by kernel_rfl, fun w => by kernel_rfl⟩
theorem ZR23 : Zer Try.prog 23 (.nilFunc) := fun w => by kernel_rfl
theorem SL24 : ElT Try.prog 24 3 1 8 (.int .i64 0) := ⟨by kernel_rfl, info_parts (by kernel_rfl), rfl, by decide⟩
theorem ON24 : One Try.prog 24 := ⟨fun w => by kernel_rfl, fun w => by kernel_rfl⟩
theorem ZR24 : Zer Try.prog 24 (.slice none 0 0) := fun w => by kernel_rfl
theorem ON25 : One Try.prog 25 := ⟨fun w => by kernel_rfl, fun w => by kernel_rfl⟩
theorem ZR25 : Zer Try.prog 25 (.nilFunc) := fun w => by kernel_rfl
theorem SL26 : ElT Try.prog 26 39 3 24 (.agg #[.int .i64 0, .int .i64 0, .int .i64 0]) := ⟨by kernel_rfl, info_parts (by kernel_rfl), rfl, by decide⟩
theorem ON26 : One Try.prog 26 := ⟨fun w => by kernel_rfl, fun w => by kernel_rfl⟩
theorem ZR26 : Zer Try.prog 26 (.slice none 0 0) := fun w => by kernel_rfl
theorem ON27 : One Try.prog 27 := ⟨fun w => by kernel_rfl, fun w => by kernel_rfl⟩
theorem ZR27 : Zer Try.prog 27 (.nilFunc) := fun w => by kernel_rfl
theorem ON28 : One Try.prog 28 := ⟨fun w => by kernel_rfl, fun w => by kernel_rfl⟩
theorem ZR28 : Zer Try.prog 28 (.nilFunc) := fun w => by kernel_rfl
theorem ON29 : One Try.prog 29 := ⟨fun w => by kernel_rfl, fun w => by kernel_rfl⟩
theorem ZR29 : Zer Try.prog 29 (.nilFunc) := fun w => by kernel_rfl
theorem ON30 : One Try.prog 30 := ⟨fun w => by kernel_rfl, fun w => by kernel_rfl⟩
theorem ZR30 : Zer Try.prog 30 (.nilFunc) := fun w => by kernel_rfl
theorem ON31 : One Try.prog 31 := ⟨fun w => by kernel_rfl, fun w => by kernel_rfl⟩
theorem ZR31 : Zer Try.prog 31 (.nilFunc) := fun w => by kernel_rfl
theorem ON32 : One Try.prog 32 := ⟨fun w => by kernel_rfl, fun w => by kernel_rfl⟩
theorem ZR32 : Zer Try.prog 32 (.nilFunc) := fun w => by kernel_rfl
theorem SL33 : ElT Try.prog 33 5 1 1 (.int .u8 0) := ⟨by kernel_rfl, info_parts (by kernel_rfl), rfl, by decide⟩
theorem ON33 : One Try.prog 33 := ⟨fun w => by kernel_rfl, fun w => by kernel_rfl⟩
theorem ZR33 : Zer Try.prog 33 (.slice none 0 0) := fun w => by kernel_rfl
theorem ON34 : One Try.prog 34 := ⟨fun w => by kernel_rfl, fun w => by kernel_rfl⟩
theorem ZR34 : Zer Try.prog 34 (.nilFunc) := fun w => by kernel_rfl
theorem ON35 : One Try.prog 35 := ⟨fun w => by kernel_rfl, fun w => by kernel_rfl⟩
theorem ZR35 : Zer Try.prog 35 (.nilFunc) := fun w => by kernel_rfl
theorem ON36 : One Try.prog 36 := ⟨fun w => by kernel_rfl, fun w => by kernel_rfl⟩
theorem ZR36 : Zer Try.prog 36 (.nilFunc) := fun w => by kernel_rfl
theorem ON37 : One Try.prog 37 := ⟨fun w => by kernel_rfl, fun w => by kernel_rfl⟩
theorem ZR37 : Zer Try.prog 37 (.nilFunc) := fun w => by kernel_rfl
theorem AG38 : Agg Try.prog 38 3 := ⟨fun w => by kernel_rfl, fun w => by kernel_rfl⟩
theorem ZR38 : Zer Try.prog 38 (.agg #[.int .i64 0, .int .i64 0, .int .i64 0]) := fun w => by kernel_rfl
theorem FL38_0 : fldOf Try.prog 38 0 = some (0, 3) := by kernel_rfl
theorem FL38_1 : fldOf Try.prog 38 1 = some (1, 3) := by kernel_rfl
theorem FL38_2 : fldOf Try.prog 38 2 = some (2, 3) := by kernel_rfl
theorem AG39 : Agg Try.prog 39 3 := ⟨fun w => by kernel_rfl, fun w => by kernel_rfl⟩
theorem ZR39 : Zer Try.prog 39 (.agg #[.int .i64 0, .int .i64 0, .int .i64 0]) := fun w => by kernel_rfl
theorem FL39_0 : fldOf Try.prog 39 0 = some (0, 3) := by kernel_rfl
theorem FL39_1 : fldOf Try.prog 39 1 = some (1, 3) := by kernel_rfl
theorem FL39_2 : fldOf Try.prog 39 2 = some (2, 3) := by kernel_rfl
theorem ON40 : One Try.prog 40 := ⟨fun w => by kernel_rfl, fun w => by kernel_rfl⟩
theorem ZR40 : Zer Try.prog 40 (.nilFunc) := fun w => by kernel_rfl
theorem SL41 : ElT Try.prog 41 4 1 1 (.bool false) := ⟨by kernel_rfl, info_parts (by kernel_rfl), rfl, by decide⟩
theorem ON41 : One Try.prog 41 := ⟨fun w => by kernel_rfl, fun w => by kernel_rfl⟩
theorem ZR41 : Zer Try.prog 41 (.slice none 0 0) := fun w => by kernel_rfl
theorem ON42 : One Try.prog 42 := ⟨fun w => by kernel_rfl, fun w => by kernel_rfl⟩
theorem ZR42 : Zer Try.prog 42 (.nilFunc) := fun w => by kernel_rfl
theorem AG43 : Agg Try.prog 43 3 := ⟨fun w => by kernel_rfl, fun w => by kernel_rfl⟩
theorem ZR43 : Zer Try.prog 43 (.agg #[.int .i64 0, .int .i64 0, .int .i64 0]) := fun w => by kernel_rfl
theorem FL43_0 : fldOf Try.prog 43 0 = some (0, 3) := by kernel_rfl
theorem FL43_1 : fldOf Try.prog 43 1 = some (1, 3) := by kernel_rfl
theorem FL43_2 : fldOf Try.prog 43 2 = some (2, 3) := by kernel_rfl
theorem ON44 : One Try.prog 44 := ⟨fun w => by kernel_rfl, fun w => by kernel_rfl⟩
theorem ZR44 : Zer Try.prog 44 (.nilFunc) := fun w => by kernel_rfl
theorem ON45 : One Try.prog 45 := ⟨fun w => by kernel_rfl, fun w => by kernel_rfl⟩
theorem ZR45 : Zer Try.prog 45 (.nilFunc) := fun w => by kernel_rfl
theorem ON46 : One Try.prog 46 := ⟨fun w => by kernel_rfl, fun w => by kernel_rfl⟩
theorem ZR46 : Zer Try.prog 46 (.pointer none) := fun w => by kernel_rfl
theorem ON47 : One Try.prog 47 := ⟨fun w => by kernel_rfl, fun w => by kernel_rfl⟩
theorem ZR47 : Zer Try.prog 47 (.nilFunc) := fun w => by kernel_rfl
theorem ON48 : One Try.prog 48 := ⟨fun w => by kernel_rfl, fun w => by kernel_rfl⟩
theorem ZR48 : Zer Try.prog 48 (.nilFunc) := fun w => by kernel_rfl
theorem ON49 : One Try.prog 49 := ⟨fun w => by kernel_rfl, fun w => by kernel_rfl⟩
theorem ZR49 : Zer Try.prog 49 (.nilFunc) := fun w => by kernel_rfl
theorem ON50 : One Try.prog 50 := ⟨fun w => by kernel_rfl, fun w => by kernel_rfl⟩
theorem ZR50 : Zer Try.prog 50 (.nilFunc) := fun w => by kernel_rfl
theorem ON51 : One Try.prog 51 := ⟨fun w => by kernel_rfl, fun w => by kernel_rfl⟩
theorem ZR51 : Zer Try.prog 51 (.nilFunc) := fun w => by kernel_rfl
theorem AG52 : Agg Try.prog 52 3 := ⟨fun w => by kernel_rfl, fun w => by kernel_rfl⟩
theorem ZR52 : Zer Try.prog 52 (.agg #[.slice none 0 0, .int .i64 0, .int .i64 0]) := fun w => by kernel_rfl
theorem FL52_0 : fldOf Try.prog 52 0 = some (0, 33) := by kernel_rfl
theorem FL52_1 : fldOf Try.prog 52 1 = some (1, 3) := by kernel_rfl
theorem FL52_2 : fldOf Try.prog 52 2 = some (2, 3) := by kernel_rfl
theorem AG53 : Agg Try.prog 53 3 := ⟨fun w => by kernel_rfl, fun w => by kernel_rfl⟩
theorem ZR53 : Zer Try.prog 53 (.agg #[.slice none 0 0, .int .i64 0, .int .i64 0]) := fun w => by kernel_rfl
theorem FL53_0 : fldOf Try.prog 53 0 = some (0, 33) := by kernel_rfl
theorem FL53_1 : fldOf Try.prog 53 1 = some (1, 3) := by kernel_rfl
theorem FL53_2 : fldOf Try.prog 53 2 = some (2, 3) := by kernel_rfl
theorem ON54 : One Try.prog 54 := ⟨fun w => by kernel_rfl, fun w => by kernel_rfl⟩
theorem ZR54 : Zer Try.prog 54 (.nilFunc) := fun w => by kernel_rfl
theorem ON55 : One Try.prog 55 := ⟨fun w => by kernel_rfl, fun w => by kernel_rfl⟩
theorem ZR55 : Zer Try.prog 55 (.int .u64 0) := fun w => by kernel_rfl
theorem ON56 : One Try.prog 56 := ⟨fun w => by kernel_rfl, fun w => by kernel_rfl⟩
theorem ZR56 : Zer Try.prog 56 (.nilFunc) := fun w => by kernel_rfl
theorem ON62 : One Try.prog 62 := ⟨fun w => by kernel_rfl, fun w => by kernel_rfl⟩
theorem ZR62 : Zer Try.prog 62 (.nilFunc) := fun w => by kernel_rfl
theorem ON63 : One Try.prog 63 := ⟨fun w => by kernel_rfl, fun w => by kernel_rfl⟩
theorem ZR63 : Zer Try.prog 63 (.int .u32 0) := fun w => by kernel_rfl
theorem ON64 : One Try.prog 64 := ⟨fun w => by kernel_rfl, fun w => by kernel_rfl⟩
theorem ZR64 : Zer Try.prog 64 (.int .u8 0) := fun w => by kernel_rfl
theorem ON65 : One Try.prog 65 := ⟨fun w => by kernel_rfl, fun w => by kernel_rfl⟩
theorem ZR65 : Zer Try.prog 65 (.int .u8 0) := fun w => by kernel_rfl
theorem ON66 : One Try.prog 66 := ⟨fun w => by kernel_rfl, fun w => by kernel_rfl⟩
theorem ZR66 : Zer Try.prog 66 (.nilFunc) := fun w => by kernel_rfl
theorem ON67 : One Try.prog 67 := ⟨fun w => by kernel_rfl, fun w => by kernel_rfl⟩
theorem ZR67 : Zer Try.prog 67 (.pointer none) := fun w => by kernel_rfl
theorem ON68 : One Try.prog 68 := ⟨fun w => by kernel_rfl, fun w => by kernel_rfl⟩
theorem ZR68 : Zer Try.prog 68 (.int .i32 0) := fun w => by kernel_rfl
theorem ON69 : One Try.prog 69 := ⟨fun w => by kernel_rfl, fun w => by kernel_rfl⟩
theorem ZR69 : Zer Try.prog 69 (.int .i32 0) := fun w => by kernel_rfl
theorem UB : Try.prog.underlying 4 = some .bool := by kernel_rfl
theorem MIX : Try.prog.follows .mixedOrders = true := by kernel_rfl
theorem CF3 : CallF Try.prog 3 := fun args w => by kernel_rfl
theorem CF4 : CallF Try.prog 4 := fun args w => by kernel_rfl
theorem CF5 : CallF Try.prog 5 := fun args w => by kernel_rfl
theorem CF6 : CallF Try.prog 6 := fun args w => by kernel_rfl
theorem CF7 : CallF Try.prog 7 := fun args w => by kernel_rfl
theorem CF8 : CallF Try.prog 8 := fun args w => by kernel_rfl
theorem CF9 : CallF Try.prog 9 := fun args w => by kernel_rfl
theorem CF10 : CallF Try.prog 10 := fun args w => by kernel_rfl
theorem CF11 : CallF Try.prog 11 := fun args w => by kernel_rfl
theorem CF12 : CallF Try.prog 12 := fun args w => by kernel_rfl
theorem CF13 : CallF Try.prog 13 := fun args w => by kernel_rfl
theorem CF14 : CallF Try.prog 14 := fun args w => by kernel_rfl
theorem CF15 : CallF Try.prog 15 := fun args w => by kernel_rfl
theorem CF16 : CallF Try.prog 16 := fun args w => by kernel_rfl
theorem CF17 : CallF Try.prog 17 := fun args w => by kernel_rfl
theorem CF18 : CallF Try.prog 18 := fun args w => by kernel_rfl
theorem CF19 : CallF Try.prog 19 := fun args w => by kernel_rfl
theorem CF20 : CallF Try.prog 20 := fun args w => by kernel_rfl
theorem CF21 : CallF Try.prog 21 := fun args w => by kernel_rfl
theorem CF22 : CallF Try.prog 22 := fun args w => by kernel_rfl
theorem CF23 : CallF Try.prog 23 := fun args w => by kernel_rfl
theorem CF24 : CallF Try.prog 24 := fun args w => by kernel_rfl
theorem CF25 : CallF Try.prog 25 := fun args w => by kernel_rfl
theorem CF26 : CallF Try.prog 26 := fun args w => by kernel_rfl
theorem CF27 : CallF Try.prog 27 := fun args w => by kernel_rfl
theorem CF28 : CallF Try.prog 28 := fun args w => by kernel_rfl
theorem CF29 : CallF Try.prog 29 := fun args w => by kernel_rfl
theorem CF30 : CallF Try.prog 30 := fun args w => by kernel_rfl
theorem CF31 : CallF Try.prog 31 := fun args w => by kernel_rfl
theorem CF32 : CallF Try.prog 32 := fun args w => by kernel_rfl
theorem CF33 : CallF Try.prog 33 := fun args w => by kernel_rfl
theorem BD39_01 (x0 : Int) (x1 : Int) : ∀ w, (Instr.build 39 #[(0, .int .i64 x0), (1, .int .i64 x1)]).run Try.prog w = .ok (.agg #[.int .i64 x0, .int .i64 x1, .int .i64 0]) w := fun w => by kernel_rfl
theorem BD53_02 (a0 : Option Addr) (l0 c0 : Nat) (x2 : Int) : ∀ w, (Instr.build 53 #[(0, .slice a0 l0 c0), (2, .int .i64 x2)]).run Try.prog w = .ok (.agg #[.slice a0 l0 c0, .int .i64 0, .int .i64 x2]) w := fun w => by kernel_rfl
end Go.Proofs.Ytebfcpninegcgaa
