/- The seat's types and functions, and values that are ok, within bounds of their sizes. -/
import Derived.Test.YtfdafamjgnbecaaAvd
import Derived.Test.YtfdafamjgnbecaaProg
import Derived.KernelRfl
set_option linter.unusedVariables false
set_option linter.unusedSimpArgs false
/- The seat's types. -/
set_option linter.unusedVariables false
namespace Go.Av
open Go
set_option maxRecDepth 10000
def tab : List (Option TyD) := [
  none,
  some ⟨1, 8, false, [.nilfn], .func⟩,
  some ⟨1, 8, false, [.int .i64 0], (.int .i64)⟩,
  some ⟨1, 8, false, [.int .i64 0], (.int .i64)⟩,
  some ⟨1, 1, false, [.bool false], .bool⟩,
  some ⟨1, 1, false, [.int .u8 0], (.int .u8)⟩,
  some ⟨1, 1, false, [.int .u8 0], (.int .u8)⟩,
  some ⟨4, 24, true, [.int .i64 0, .int .i64 0, .bool false, .int .u8 0], (.struct [(0, 2), (1, 3), (2, 4), (3, 6)])⟩,
  some ⟨4, 24, true, [.int .i64 0, .int .i64 0, .bool false, .int .u8 0], (.struct [(0, 2), (1, 3), (2, 4), (3, 6)])⟩,
  some ⟨1, 16, false, [.str []], .str⟩,
  some ⟨1, 16, false, [.str []], .str⟩,
  some ⟨1, 16, false, [.str []], .str⟩,
  some ⟨1, 8, false, [.int .u64 0], (.int .u64)⟩,
  some ⟨2, 24, true, [.str [], .int .u64 0], (.struct [(0, 9), (1, 12)])⟩,
  some ⟨2, 24, true, [.str [], .int .u64 0], (.struct [(0, 9), (1, 12)])⟩,
  some ⟨1, 8, false, [.nilp], (.ptr 171)⟩,
  some ⟨1, 8, false, [.nilp], (.ptr 174)⟩,
  some ⟨1, 8, false, [.nilp], (.ptr 184)⟩,
  some ⟨1, 8, true, [.nilp], (.struct [(0, 17)])⟩,
  some ⟨1, 8, true, [.nilp], (.struct [(0, 17)])⟩,
  some ⟨1, 16, false, [.nilif], (.iface true)⟩,
  some ⟨1, 4, false, [.int .i32 0], (.int .i32)⟩,
  some ⟨1, 24, false, [.nsl 7], (.slice 63)⟩,
  some ⟨1, 8, false, [.nilfn], .func⟩,
  some ⟨1, 24, false, [.nsl 7], (.slice 54)⟩,
  some ⟨1, 24, false, [.nsl 5], (.slice 75)⟩,
  some ⟨2, 48, true, [.nsl 7, .nsl 5], (.struct [(0, 24), (1, 25)])⟩,
  some ⟨2, 48, true, [.nsl 7, .nsl 5], (.struct [(0, 24), (1, 25)])⟩,
  some ⟨1, 8, false, [.nilfn], .func⟩,
  some ⟨1, 8, false, [.nilfn], .func⟩,
  some ⟨1, 8, false, [.nilfn], .func⟩,
  some ⟨1, 8, false, [.nilfn], .func⟩,
  some ⟨1, 8, false, [.nilfn], .func⟩,
  some ⟨1, 8, false, [.nilfn], .func⟩,
  some ⟨1, 8, false, [.nilfn], .func⟩,
  some ⟨1, 24, false, [.nsl 5], (.slice 115)⟩,
  some ⟨2, 48, true, [.nsl 7, .nsl 5], (.struct [(0, 22), (1, 35)])⟩,
  some ⟨2, 48, true, [.nsl 7, .nsl 5], (.struct [(0, 22), (1, 35)])⟩,
  some ⟨1, 8, false, [.nilfn], .func⟩,
  none,
  some ⟨1, 8, false, [.nilfn], .func⟩,
  some ⟨1, 8, false, [.nilfn], .func⟩,
  some ⟨1, 8, false, [.nilfn], .func⟩,
  some ⟨1, 24, false, [.nsl 1], (.slice 5)⟩,
  some ⟨1, 24, false, [.nsl 5], (.slice 47)⟩,
  some ⟨1, 24, false, [.nsl 1], (.slice 9)⟩,
  some ⟨5, 80, true, [.int .i64 0, .int .i64 0, .str [], .nsl 5, .nsl 1], (.struct [(0, 3), (1, 3), (2, 9), (3, 44), (4, 45)])⟩,
  some ⟨5, 80, true, [.int .i64 0, .int .i64 0, .str [], .nsl 5, .nsl 1], (.struct [(0, 3), (1, 3), (2, 9), (3, 44), (4, 45)])⟩,
  none,
  some ⟨1, 8, false, [.nilfn], .func⟩,
  none,
  some ⟨1, 8, false, [.nilfn], .func⟩,
  some ⟨1, 8, false, [.nilfn], .func⟩,
  some ⟨7, 104, true, [.int .i64 0, .str [], .int .i64 0, .int .i64 0, .str [], .nsl 5, .nsl 1], (.struct [(0, 3), (1, 9), (2, 47)])⟩,
  some ⟨7, 104, true, [.int .i64 0, .str [], .int .i64 0, .int .i64 0, .str [], .nsl 5, .nsl 1], (.struct [(0, 3), (1, 9), (2, 47)])⟩,
  some ⟨1, 8, false, [.nilfn], .func⟩,
  some ⟨1, 8, false, [.nilfn], .func⟩,
  some ⟨1, 8, false, [.nilfn], .func⟩,
  some ⟨1, 8, false, [.nilfn], .func⟩,
  some ⟨1, 24, false, [.nsl 5], (.slice 61)⟩,
  some ⟨5, 80, true, [.int .i64 0, .int .i64 0, .str [], .nsl 5, .nsl 1], (.struct [(0, 3), (1, 3), (2, 9), (3, 59), (4, 45)])⟩,
  some ⟨5, 80, true, [.int .i64 0, .int .i64 0, .str [], .nsl 5, .nsl 1], (.struct [(0, 3), (1, 3), (2, 9), (3, 59), (4, 45)])⟩,
  some ⟨7, 104, true, [.int .i64 0, .str [], .int .i64 0, .int .i64 0, .str [], .nsl 5, .nsl 1], (.struct [(0, 3), (1, 9), (2, 61)])⟩,
  some ⟨7, 104, true, [.int .i64 0, .str [], .int .i64 0, .int .i64 0, .str [], .nsl 5, .nsl 1], (.struct [(0, 3), (1, 9), (2, 61)])⟩,
  some ⟨1, 8, false, [.nilfn], .func⟩,
  some ⟨1, 8, false, [.nilfn], .func⟩,
  some ⟨1, 8, false, [.nilfn], .func⟩,
  some ⟨1, 8, false, [.nilfn], .func⟩,
  some ⟨1, 8, false, [.nilfn], .func⟩,
  some ⟨1, 8, false, [.nilfn], .func⟩,
  some ⟨1, 8, false, [.nilfn], .func⟩,
  some ⟨1, 8, false, [.nilfn], .func⟩,
  some ⟨1, 8, false, [.nilfn], .func⟩,
  some ⟨1, 8, false, [.nilfn], .func⟩,
  some ⟨5, 72, true, [.int .i64 0, .str [], .str [], .str [], .str []], (.struct [(0, 3), (1, 9), (2, 9), (3, 9), (4, 9)])⟩,
  some ⟨5, 72, true, [.int .i64 0, .str [], .str [], .str [], .str []], (.struct [(0, 3), (1, 9), (2, 9), (3, 9), (4, 9)])⟩,
  none,
  some ⟨1, 8, false, [.nilfn], .func⟩,
  some ⟨1, 8, false, [.nilfn], .func⟩,
  some ⟨1, 8, false, [.nilfn], .func⟩,
  some ⟨1, 8, false, [.nilfn], .func⟩,
  some ⟨1, 8, false, [.nilfn], .func⟩,
  some ⟨1, 8, false, [.nilp], (.ptr 118)⟩,
  some ⟨1, 8, false, [.nilfn], .func⟩,
  some ⟨1, 8, false, [.nilfn], .func⟩,
  some ⟨1, 8, false, [.nilfn], .func⟩,
  some ⟨1, 8, false, [.nilfn], .func⟩,
  some ⟨1, 8, false, [.nilfn], .func⟩,
  some ⟨1, 8, false, [.nilp], (.ptr 124)⟩,
  none,
  some ⟨1, 8, false, [.nilfn], .func⟩,
  some ⟨1, 8, false, [.nilfn], .func⟩,
  some ⟨1, 8, false, [.nilfn], .func⟩,
  some ⟨1, 8, false, [.nilp], (.ptr 47)⟩,
  some ⟨1, 8, false, [.nilfn], .func⟩,
  some ⟨1, 8, false, [.nilfn], .func⟩,
  some ⟨1, 8, false, [.nilfn], .func⟩,
  some ⟨1, 8, false, [.nilmap], (.map 105 106)⟩,
  some ⟨10, 160, true, [.int .i64 0, .int .i64 0, .str [], .nsl 5, .nsl 1, .int .i64 0, .int .i64 0, .str [], .nsl 5, .nsl 1], (.struct [(0, 47), (5, 47)])⟩,
  some ⟨10, 160, true, [.int .i64 0, .int .i64 0, .str [], .nsl 5, .nsl 1, .int .i64 0, .int .i64 0, .str [], .nsl 5, .nsl 1], (.struct [(0, 47), (5, 47)])⟩,
  some ⟨1, 24, false, [.nsl 10], (.slice 99)⟩,
  some ⟨2, 16, true, [.nilp, .int .i64 0], (.struct [(0, 93), (1, 3)])⟩,
  some ⟨2, 16, true, [.nilp, .int .i64 0], (.struct [(0, 93), (1, 3)])⟩,
  some ⟨1, 8, false, [.nilfn], .func⟩,
  some ⟨4, 32, true, [.nilp, .int .i64 0, .nilp, .int .i64 0], (.struct [(0, 102), (2, 102)])⟩,
  some ⟨4, 32, true, [.nilp, .int .i64 0, .nilp, .int .i64 0], (.struct [(0, 102), (2, 102)])⟩,
  some ⟨0, 0, true, [], (.struct [])⟩,
  none,
  none,
  some ⟨1, 8, false, [.nilfn], .func⟩,
  some ⟨1, 8, false, [.nilfn], .func⟩,
  some ⟨1, 8, false, [.nilfn], .func⟩,
  some ⟨1, 8, false, [.nilfn], .func⟩,
  some ⟨1, 8, false, [.nilfn], .func⟩,
  some ⟨1, 8, false, [.nilfn], .func⟩,
  some ⟨5, 72, true, [.int .i64 0, .str [], .str [], .str [], .str []], (.struct [(0, 3), (1, 9), (2, 9), (3, 9), (4, 9)])⟩,
  some ⟨1, 8, false, [.nilfn], .func⟩,
  some ⟨2, 32, true, [.nsl 1, .int .i64 0], (.struct [(0, 43), (1, 3)])⟩,
  some ⟨2, 32, true, [.nsl 1, .int .i64 0], (.struct [(0, 43), (1, 3)])⟩,
  some ⟨1, 8, false, [.nilfn], .func⟩,
  some ⟨1, 24, false, [.nsl 1], (.slice 3)⟩,
  some ⟨1, 8, false, [.nilfn], .func⟩,
  some ⟨1, 8, false, [.nilfn], .func⟩,
  some ⟨2, 48, true, [.nsl 1, .nsl 7], (.struct [(0, 120), (1, 24)])⟩,
  some ⟨2, 48, true, [.nsl 1, .nsl 7], (.struct [(0, 120), (1, 24)])⟩,
  some ⟨1, 8, false, [.nilfn], .func⟩,
  some ⟨1, 8, false, [.nilfn], .func⟩,
  some ⟨1, 8, false, [.nilfn], .func⟩,
  some ⟨1, 16, false, [.nilif], (.iface false)⟩,
  some ⟨1, 16, false, [.nilif], (.iface false)⟩,
  some ⟨1, 8, false, [.nilfn], .func⟩,
  some ⟨1, 16, false, [.str []], .str⟩,
  some ⟨1, 16, false, [.str []], .str⟩,
  some ⟨1, 8, false, [.nilfn], .func⟩,
  some ⟨1, 8, false, [.nilfn], .func⟩,
  some ⟨1, 8, false, [.nilfn], .func⟩,
  some ⟨1, 8, false, [.nilfn], .func⟩,
  some ⟨1, 8, false, [.nilfn], .func⟩,
  some ⟨1, 8, false, [.nilfn], .func⟩,
  some ⟨1, 8, false, [.nilfn], .func⟩,
  some ⟨1, 8, false, [.nilfn], .func⟩,
  some ⟨1, 8, false, [.nilfn], .func⟩,
  some ⟨1, 8, false, [.nilfn], .func⟩,
  some ⟨1, 8, false, [.nilfn], .func⟩,
  some ⟨1, 8, false, [.nilfn], .func⟩,
  some ⟨1, 8, false, [.nilfn], .func⟩,
  some ⟨0, 0, true, [], (.struct [])⟩,
  some ⟨1, 1, false, [.bool false], .bool⟩,
  some ⟨1, 8, false, [.int .i64 0], (.int .i64)⟩,
  some ⟨1, 16, false, [.str []], .str⟩,
  some ⟨1, 24, false, [.nsl 5], (.slice 47)⟩,
  some ⟨2, 48, true, [.nsl 1, .nsl 5], (.struct [(0, 45), (1, 44)])⟩,
  some ⟨2, 48, true, [.nsl 1, .nsl 5], (.struct [(0, 45), (1, 44)])⟩,
  some ⟨1, 8, false, [.nilp], (.ptr 155)⟩,
  some ⟨4, 48, true, [.nilp, .int .i64 0, .nsl 5, .nilp], (.struct [(0, 102), (2, 44), (3, 153)])⟩,
  some ⟨4, 48, true, [.nilp, .int .i64 0, .nsl 5, .nilp], (.struct [(0, 102), (2, 44), (3, 153)])⟩,
  none,
  some ⟨1, 8, false, [.nilfn], .func⟩,
  none,
  some ⟨1, 8, false, [.nilfn], .func⟩,
  some ⟨1, 8, false, [.nilfn], .func⟩,
  none,
  some ⟨1, 8, false, [.nilfn], .func⟩,
  some ⟨1, 8, false, [.nilfn], .func⟩,
  none,
  some ⟨1, 8, false, [.nilfn], .func⟩,
  none,
  some ⟨1, 8, false, [.nilfn], .func⟩,
  some ⟨1, 8, false, [.nilfn], .func⟩,
  some ⟨1, 8, false, [.nilfn], .func⟩,
  some ⟨4, 40, true, [.nilp, .nilp, .nilp, .str []], (.struct [(0, 17), (1, 17), (2, 17), (3, 9)])⟩,
  some ⟨4, 40, true, [.nilp, .nilp, .nilp, .str []], (.struct [(0, 17), (1, 17), (2, 17), (3, 9)])⟩,
  some ⟨0, 0, true, [], (.array 0 16)⟩,
  some ⟨0, 0, true, [], (.struct [(0, 172)])⟩,
  some ⟨0, 0, true, [], (.struct [(0, 172)])⟩,
  some ⟨1, 8, false, [.nilfn], .func⟩,
  some ⟨1, 4, false, [.int .u32 0], (.int .u32)⟩,
  some ⟨1, 1, false, [.int .u8 0], (.int .u8)⟩,
  some ⟨1, 1, false, [.int .u8 0], (.int .u8)⟩,
  some ⟨1, 8, false, [.nilfn], .func⟩,
  some ⟨1, 8, false, [.nilp], (.ptr 5)⟩,
  some ⟨1, 4, false, [.int .i32 0], (.int .i32)⟩,
  some ⟨1, 4, false, [.int .i32 0], (.int .i32)⟩,
  some ⟨11, 48, true, [.int .u64 0, .int .u64 0, .int .u32 0, .int .u8 0, .int .u8 0, .int .u8 0, .int .u8 0, .nilfn, .nilp, .int .i32 0, .int .i32 0], (.struct [(0, 12), (1, 12), (2, 176), (3, 177), (4, 5), (5, 5), (6, 178), (7, 179), (8, 180), (9, 181), (10, 182)])⟩,
  some ⟨11, 48, true, [.int .u64 0, .int .u64 0, .int .u32 0, .int .u8 0, .int .u8 0, .int .u8 0, .int .u8 0, .nilfn, .nilp, .int .i32 0, .int .i32 0], (.struct [(0, 12), (1, 12), (2, 176), (3, 177), (4, 5), (5, 5), (6, 178), (7, 179), (8, 180), (9, 181), (10, 182)])⟩]
noncomputable abbrev P : Program := Go.Proofs.Try.prog
noncomputable def T : Tys := tyTab tab
theorem T_ok : TyOK P T := tyOK_of_check (by kernel_rfl)
theorem P_mixed : P.follows .mixedOrders = true := by kernel_rfl
@[go_sem] theorem T_1 : T 1 = some ⟨1, 8, false, [.nilfn], .func⟩ := rfl
@[go_sem] theorem T_2 : T 2 = some ⟨1, 8, false, [.int .i64 0], (.int .i64)⟩ := rfl
@[go_sem] theorem T_3 : T 3 = some ⟨1, 8, false, [.int .i64 0], (.int .i64)⟩ := rfl
@[go_sem] theorem T_4 : T 4 = some ⟨1, 1, false, [.bool false], .bool⟩ := rfl
@[go_sem] theorem T_5 : T 5 = some ⟨1, 1, false, [.int .u8 0], (.int .u8)⟩ := rfl
@[go_sem] theorem T_6 : T 6 = some ⟨1, 1, false, [.int .u8 0], (.int .u8)⟩ := rfl
@[go_sem] theorem T_7 : T 7 = some ⟨4, 24, true, [.int .i64 0, .int .i64 0, .bool false, .int .u8 0], (.struct [(0, 2), (1, 3), (2, 4), (3, 6)])⟩ := rfl
@[go_sem] theorem T_8 : T 8 = some ⟨4, 24, true, [.int .i64 0, .int .i64 0, .bool false, .int .u8 0], (.struct [(0, 2), (1, 3), (2, 4), (3, 6)])⟩ := rfl
@[go_sem] theorem T_9 : T 9 = some ⟨1, 16, false, [.str []], .str⟩ := rfl
@[go_sem] theorem T_10 : T 10 = some ⟨1, 16, false, [.str []], .str⟩ := rfl
@[go_sem] theorem T_11 : T 11 = some ⟨1, 16, false, [.str []], .str⟩ := rfl
@[go_sem] theorem T_12 : T 12 = some ⟨1, 8, false, [.int .u64 0], (.int .u64)⟩ := rfl
@[go_sem] theorem T_13 : T 13 = some ⟨2, 24, true, [.str [], .int .u64 0], (.struct [(0, 9), (1, 12)])⟩ := rfl
@[go_sem] theorem T_14 : T 14 = some ⟨2, 24, true, [.str [], .int .u64 0], (.struct [(0, 9), (1, 12)])⟩ := rfl
@[go_sem] theorem T_15 : T 15 = some ⟨1, 8, false, [.nilp], (.ptr 171)⟩ := rfl
@[go_sem] theorem T_16 : T 16 = some ⟨1, 8, false, [.nilp], (.ptr 174)⟩ := rfl
@[go_sem] theorem T_17 : T 17 = some ⟨1, 8, false, [.nilp], (.ptr 184)⟩ := rfl
@[go_sem] theorem T_18 : T 18 = some ⟨1, 8, true, [.nilp], (.struct [(0, 17)])⟩ := rfl
@[go_sem] theorem T_19 : T 19 = some ⟨1, 8, true, [.nilp], (.struct [(0, 17)])⟩ := rfl
@[go_sem] theorem T_20 : T 20 = some ⟨1, 16, false, [.nilif], (.iface true)⟩ := rfl
@[go_sem] theorem T_21 : T 21 = some ⟨1, 4, false, [.int .i32 0], (.int .i32)⟩ := rfl
@[go_sem] theorem T_22 : T 22 = some ⟨1, 24, false, [.nsl 7], (.slice 63)⟩ := rfl
@[go_sem] theorem T_23 : T 23 = some ⟨1, 8, false, [.nilfn], .func⟩ := rfl
@[go_sem] theorem T_24 : T 24 = some ⟨1, 24, false, [.nsl 7], (.slice 54)⟩ := rfl
@[go_sem] theorem T_25 : T 25 = some ⟨1, 24, false, [.nsl 5], (.slice 75)⟩ := rfl
@[go_sem] theorem T_26 : T 26 = some ⟨2, 48, true, [.nsl 7, .nsl 5], (.struct [(0, 24), (1, 25)])⟩ := rfl
@[go_sem] theorem T_27 : T 27 = some ⟨2, 48, true, [.nsl 7, .nsl 5], (.struct [(0, 24), (1, 25)])⟩ := rfl
@[go_sem] theorem T_28 : T 28 = some ⟨1, 8, false, [.nilfn], .func⟩ := rfl
@[go_sem] theorem T_29 : T 29 = some ⟨1, 8, false, [.nilfn], .func⟩ := rfl
@[go_sem] theorem T_30 : T 30 = some ⟨1, 8, false, [.nilfn], .func⟩ := rfl
@[go_sem] theorem T_31 : T 31 = some ⟨1, 8, false, [.nilfn], .func⟩ := rfl
@[go_sem] theorem T_32 : T 32 = some ⟨1, 8, false, [.nilfn], .func⟩ := rfl
@[go_sem] theorem T_33 : T 33 = some ⟨1, 8, false, [.nilfn], .func⟩ := rfl
@[go_sem] theorem T_34 : T 34 = some ⟨1, 8, false, [.nilfn], .func⟩ := rfl
@[go_sem] theorem T_35 : T 35 = some ⟨1, 24, false, [.nsl 5], (.slice 115)⟩ := rfl
@[go_sem] theorem T_36 : T 36 = some ⟨2, 48, true, [.nsl 7, .nsl 5], (.struct [(0, 22), (1, 35)])⟩ := rfl
@[go_sem] theorem T_37 : T 37 = some ⟨2, 48, true, [.nsl 7, .nsl 5], (.struct [(0, 22), (1, 35)])⟩ := rfl
@[go_sem] theorem T_38 : T 38 = some ⟨1, 8, false, [.nilfn], .func⟩ := rfl
@[go_sem] theorem T_40 : T 40 = some ⟨1, 8, false, [.nilfn], .func⟩ := rfl
@[go_sem] theorem T_41 : T 41 = some ⟨1, 8, false, [.nilfn], .func⟩ := rfl
@[go_sem] theorem T_42 : T 42 = some ⟨1, 8, false, [.nilfn], .func⟩ := rfl
@[go_sem] theorem T_43 : T 43 = some ⟨1, 24, false, [.nsl 1], (.slice 5)⟩ := rfl
@[go_sem] theorem T_44 : T 44 = some ⟨1, 24, false, [.nsl 5], (.slice 47)⟩ := rfl
@[go_sem] theorem T_45 : T 45 = some ⟨1, 24, false, [.nsl 1], (.slice 9)⟩ := rfl
@[go_sem] theorem T_46 : T 46 = some ⟨5, 80, true, [.int .i64 0, .int .i64 0, .str [], .nsl 5, .nsl 1], (.struct [(0, 3), (1, 3), (2, 9), (3, 44), (4, 45)])⟩ := rfl
@[go_sem] theorem T_47 : T 47 = some ⟨5, 80, true, [.int .i64 0, .int .i64 0, .str [], .nsl 5, .nsl 1], (.struct [(0, 3), (1, 3), (2, 9), (3, 44), (4, 45)])⟩ := rfl
@[go_sem] theorem T_49 : T 49 = some ⟨1, 8, false, [.nilfn], .func⟩ := rfl
@[go_sem] theorem T_51 : T 51 = some ⟨1, 8, false, [.nilfn], .func⟩ := rfl
@[go_sem] theorem T_52 : T 52 = some ⟨1, 8, false, [.nilfn], .func⟩ := rfl
@[go_sem] theorem T_53 : T 53 = some ⟨7, 104, true, [.int .i64 0, .str [], .int .i64 0, .int .i64 0, .str [], .nsl 5, .nsl 1], (.struct [(0, 3), (1, 9), (2, 47)])⟩ := rfl
@[go_sem] theorem T_54 : T 54 = some ⟨7, 104, true, [.int .i64 0, .str [], .int .i64 0, .int .i64 0, .str [], .nsl 5, .nsl 1], (.struct [(0, 3), (1, 9), (2, 47)])⟩ := rfl
@[go_sem] theorem T_55 : T 55 = some ⟨1, 8, false, [.nilfn], .func⟩ := rfl
@[go_sem] theorem T_56 : T 56 = some ⟨1, 8, false, [.nilfn], .func⟩ := rfl
@[go_sem] theorem T_57 : T 57 = some ⟨1, 8, false, [.nilfn], .func⟩ := rfl
@[go_sem] theorem T_58 : T 58 = some ⟨1, 8, false, [.nilfn], .func⟩ := rfl
@[go_sem] theorem T_59 : T 59 = some ⟨1, 24, false, [.nsl 5], (.slice 61)⟩ := rfl
@[go_sem] theorem T_60 : T 60 = some ⟨5, 80, true, [.int .i64 0, .int .i64 0, .str [], .nsl 5, .nsl 1], (.struct [(0, 3), (1, 3), (2, 9), (3, 59), (4, 45)])⟩ := rfl
@[go_sem] theorem T_61 : T 61 = some ⟨5, 80, true, [.int .i64 0, .int .i64 0, .str [], .nsl 5, .nsl 1], (.struct [(0, 3), (1, 3), (2, 9), (3, 59), (4, 45)])⟩ := rfl
@[go_sem] theorem T_62 : T 62 = some ⟨7, 104, true, [.int .i64 0, .str [], .int .i64 0, .int .i64 0, .str [], .nsl 5, .nsl 1], (.struct [(0, 3), (1, 9), (2, 61)])⟩ := rfl
@[go_sem] theorem T_63 : T 63 = some ⟨7, 104, true, [.int .i64 0, .str [], .int .i64 0, .int .i64 0, .str [], .nsl 5, .nsl 1], (.struct [(0, 3), (1, 9), (2, 61)])⟩ := rfl
@[go_sem] theorem T_64 : T 64 = some ⟨1, 8, false, [.nilfn], .func⟩ := rfl
@[go_sem] theorem T_65 : T 65 = some ⟨1, 8, false, [.nilfn], .func⟩ := rfl
@[go_sem] theorem T_66 : T 66 = some ⟨1, 8, false, [.nilfn], .func⟩ := rfl
@[go_sem] theorem T_67 : T 67 = some ⟨1, 8, false, [.nilfn], .func⟩ := rfl
@[go_sem] theorem T_68 : T 68 = some ⟨1, 8, false, [.nilfn], .func⟩ := rfl
@[go_sem] theorem T_69 : T 69 = some ⟨1, 8, false, [.nilfn], .func⟩ := rfl
@[go_sem] theorem T_70 : T 70 = some ⟨1, 8, false, [.nilfn], .func⟩ := rfl
@[go_sem] theorem T_71 : T 71 = some ⟨1, 8, false, [.nilfn], .func⟩ := rfl
@[go_sem] theorem T_72 : T 72 = some ⟨1, 8, false, [.nilfn], .func⟩ := rfl
@[go_sem] theorem T_73 : T 73 = some ⟨1, 8, false, [.nilfn], .func⟩ := rfl
@[go_sem] theorem T_74 : T 74 = some ⟨5, 72, true, [.int .i64 0, .str [], .str [], .str [], .str []], (.struct [(0, 3), (1, 9), (2, 9), (3, 9), (4, 9)])⟩ := rfl
@[go_sem] theorem T_75 : T 75 = some ⟨5, 72, true, [.int .i64 0, .str [], .str [], .str [], .str []], (.struct [(0, 3), (1, 9), (2, 9), (3, 9), (4, 9)])⟩ := rfl
@[go_sem] theorem T_77 : T 77 = some ⟨1, 8, false, [.nilfn], .func⟩ := rfl
@[go_sem] theorem T_78 : T 78 = some ⟨1, 8, false, [.nilfn], .func⟩ := rfl
@[go_sem] theorem T_79 : T 79 = some ⟨1, 8, false, [.nilfn], .func⟩ := rfl
@[go_sem] theorem T_80 : T 80 = some ⟨1, 8, false, [.nilfn], .func⟩ := rfl
@[go_sem] theorem T_81 : T 81 = some ⟨1, 8, false, [.nilfn], .func⟩ := rfl
@[go_sem] theorem T_82 : T 82 = some ⟨1, 8, false, [.nilp], (.ptr 118)⟩ := rfl
@[go_sem] theorem T_83 : T 83 = some ⟨1, 8, false, [.nilfn], .func⟩ := rfl
@[go_sem] theorem T_84 : T 84 = some ⟨1, 8, false, [.nilfn], .func⟩ := rfl
@[go_sem] theorem T_85 : T 85 = some ⟨1, 8, false, [.nilfn], .func⟩ := rfl
@[go_sem] theorem T_86 : T 86 = some ⟨1, 8, false, [.nilfn], .func⟩ := rfl
@[go_sem] theorem T_87 : T 87 = some ⟨1, 8, false, [.nilfn], .func⟩ := rfl
@[go_sem] theorem T_88 : T 88 = some ⟨1, 8, false, [.nilp], (.ptr 124)⟩ := rfl
@[go_sem] theorem T_90 : T 90 = some ⟨1, 8, false, [.nilfn], .func⟩ := rfl
@[go_sem] theorem T_91 : T 91 = some ⟨1, 8, false, [.nilfn], .func⟩ := rfl
@[go_sem] theorem T_92 : T 92 = some ⟨1, 8, false, [.nilfn], .func⟩ := rfl
@[go_sem] theorem T_93 : T 93 = some ⟨1, 8, false, [.nilp], (.ptr 47)⟩ := rfl
@[go_sem] theorem T_94 : T 94 = some ⟨1, 8, false, [.nilfn], .func⟩ := rfl
@[go_sem] theorem T_95 : T 95 = some ⟨1, 8, false, [.nilfn], .func⟩ := rfl
@[go_sem] theorem T_96 : T 96 = some ⟨1, 8, false, [.nilfn], .func⟩ := rfl
@[go_sem] theorem T_97 : T 97 = some ⟨1, 8, false, [.nilmap], (.map 105 106)⟩ := rfl
@[go_sem] theorem T_98 : T 98 = some ⟨10, 160, true, [.int .i64 0, .int .i64 0, .str [], .nsl 5, .nsl 1, .int .i64 0, .int .i64 0, .str [], .nsl 5, .nsl 1], (.struct [(0, 47), (5, 47)])⟩ := rfl
@[go_sem] theorem T_99 : T 99 = some ⟨10, 160, true, [.int .i64 0, .int .i64 0, .str [], .nsl 5, .nsl 1, .int .i64 0, .int .i64 0, .str [], .nsl 5, .nsl 1], (.struct [(0, 47), (5, 47)])⟩ := rfl
@[go_sem] theorem T_100 : T 100 = some ⟨1, 24, false, [.nsl 10], (.slice 99)⟩ := rfl
@[go_sem] theorem T_101 : T 101 = some ⟨2, 16, true, [.nilp, .int .i64 0], (.struct [(0, 93), (1, 3)])⟩ := rfl
@[go_sem] theorem T_102 : T 102 = some ⟨2, 16, true, [.nilp, .int .i64 0], (.struct [(0, 93), (1, 3)])⟩ := rfl
@[go_sem] theorem T_103 : T 103 = some ⟨1, 8, false, [.nilfn], .func⟩ := rfl
@[go_sem] theorem T_104 : T 104 = some ⟨4, 32, true, [.nilp, .int .i64 0, .nilp, .int .i64 0], (.struct [(0, 102), (2, 102)])⟩ := rfl
@[go_sem] theorem T_105 : T 105 = some ⟨4, 32, true, [.nilp, .int .i64 0, .nilp, .int .i64 0], (.struct [(0, 102), (2, 102)])⟩ := rfl
@[go_sem] theorem T_106 : T 106 = some ⟨0, 0, true, [], (.struct [])⟩ := rfl
@[go_sem] theorem T_109 : T 109 = some ⟨1, 8, false, [.nilfn], .func⟩ := rfl
@[go_sem] theorem T_110 : T 110 = some ⟨1, 8, false, [.nilfn], .func⟩ := rfl
@[go_sem] theorem T_111 : T 111 = some ⟨1, 8, false, [.nilfn], .func⟩ := rfl
@[go_sem] theorem T_112 : T 112 = some ⟨1, 8, false, [.nilfn], .func⟩ := rfl
@[go_sem] theorem T_113 : T 113 = some ⟨1, 8, false, [.nilfn], .func⟩ := rfl
@[go_sem] theorem T_114 : T 114 = some ⟨1, 8, false, [.nilfn], .func⟩ := rfl
@[go_sem] theorem T_115 : T 115 = some ⟨5, 72, true, [.int .i64 0, .str [], .str [], .str [], .str []], (.struct [(0, 3), (1, 9), (2, 9), (3, 9), (4, 9)])⟩ := rfl
@[go_sem] theorem T_116 : T 116 = some ⟨1, 8, false, [.nilfn], .func⟩ := rfl
@[go_sem] theorem T_117 : T 117 = some ⟨2, 32, true, [.nsl 1, .int .i64 0], (.struct [(0, 43), (1, 3)])⟩ := rfl
@[go_sem] theorem T_118 : T 118 = some ⟨2, 32, true, [.nsl 1, .int .i64 0], (.struct [(0, 43), (1, 3)])⟩ := rfl
@[go_sem] theorem T_119 : T 119 = some ⟨1, 8, false, [.nilfn], .func⟩ := rfl
@[go_sem] theorem T_120 : T 120 = some ⟨1, 24, false, [.nsl 1], (.slice 3)⟩ := rfl
@[go_sem] theorem T_121 : T 121 = some ⟨1, 8, false, [.nilfn], .func⟩ := rfl
@[go_sem] theorem T_122 : T 122 = some ⟨1, 8, false, [.nilfn], .func⟩ := rfl
@[go_sem] theorem T_123 : T 123 = some ⟨2, 48, true, [.nsl 1, .nsl 7], (.struct [(0, 120), (1, 24)])⟩ := rfl
@[go_sem] theorem T_124 : T 124 = some ⟨2, 48, true, [.nsl 1, .nsl 7], (.struct [(0, 120), (1, 24)])⟩ := rfl
@[go_sem] theorem T_125 : T 125 = some ⟨1, 8, false, [.nilfn], .func⟩ := rfl
@[go_sem] theorem T_126 : T 126 = some ⟨1, 8, false, [.nilfn], .func⟩ := rfl
@[go_sem] theorem T_127 : T 127 = some ⟨1, 8, false, [.nilfn], .func⟩ := rfl
@[go_sem] theorem T_128 : T 128 = some ⟨1, 16, false, [.nilif], (.iface false)⟩ := rfl
@[go_sem] theorem T_129 : T 129 = some ⟨1, 16, false, [.nilif], (.iface false)⟩ := rfl
@[go_sem] theorem T_130 : T 130 = some ⟨1, 8, false, [.nilfn], .func⟩ := rfl
@[go_sem] theorem T_131 : T 131 = some ⟨1, 16, false, [.str []], .str⟩ := rfl
@[go_sem] theorem T_132 : T 132 = some ⟨1, 16, false, [.str []], .str⟩ := rfl
@[go_sem] theorem T_133 : T 133 = some ⟨1, 8, false, [.nilfn], .func⟩ := rfl
@[go_sem] theorem T_134 : T 134 = some ⟨1, 8, false, [.nilfn], .func⟩ := rfl
@[go_sem] theorem T_135 : T 135 = some ⟨1, 8, false, [.nilfn], .func⟩ := rfl
@[go_sem] theorem T_136 : T 136 = some ⟨1, 8, false, [.nilfn], .func⟩ := rfl
@[go_sem] theorem T_137 : T 137 = some ⟨1, 8, false, [.nilfn], .func⟩ := rfl
@[go_sem] theorem T_138 : T 138 = some ⟨1, 8, false, [.nilfn], .func⟩ := rfl
@[go_sem] theorem T_139 : T 139 = some ⟨1, 8, false, [.nilfn], .func⟩ := rfl
@[go_sem] theorem T_140 : T 140 = some ⟨1, 8, false, [.nilfn], .func⟩ := rfl
@[go_sem] theorem T_141 : T 141 = some ⟨1, 8, false, [.nilfn], .func⟩ := rfl
@[go_sem] theorem T_142 : T 142 = some ⟨1, 8, false, [.nilfn], .func⟩ := rfl
@[go_sem] theorem T_143 : T 143 = some ⟨1, 8, false, [.nilfn], .func⟩ := rfl
@[go_sem] theorem T_144 : T 144 = some ⟨1, 8, false, [.nilfn], .func⟩ := rfl
@[go_sem] theorem T_145 : T 145 = some ⟨1, 8, false, [.nilfn], .func⟩ := rfl
@[go_sem] theorem T_146 : T 146 = some ⟨0, 0, true, [], (.struct [])⟩ := rfl
@[go_sem] theorem T_147 : T 147 = some ⟨1, 1, false, [.bool false], .bool⟩ := rfl
@[go_sem] theorem T_148 : T 148 = some ⟨1, 8, false, [.int .i64 0], (.int .i64)⟩ := rfl
@[go_sem] theorem T_149 : T 149 = some ⟨1, 16, false, [.str []], .str⟩ := rfl
@[go_sem] theorem T_150 : T 150 = some ⟨1, 24, false, [.nsl 5], (.slice 47)⟩ := rfl
@[go_sem] theorem T_151 : T 151 = some ⟨2, 48, true, [.nsl 1, .nsl 5], (.struct [(0, 45), (1, 44)])⟩ := rfl
@[go_sem] theorem T_152 : T 152 = some ⟨2, 48, true, [.nsl 1, .nsl 5], (.struct [(0, 45), (1, 44)])⟩ := rfl
@[go_sem] theorem T_153 : T 153 = some ⟨1, 8, false, [.nilp], (.ptr 155)⟩ := rfl
@[go_sem] theorem T_154 : T 154 = some ⟨4, 48, true, [.nilp, .int .i64 0, .nsl 5, .nilp], (.struct [(0, 102), (2, 44), (3, 153)])⟩ := rfl
@[go_sem] theorem T_155 : T 155 = some ⟨4, 48, true, [.nilp, .int .i64 0, .nsl 5, .nilp], (.struct [(0, 102), (2, 44), (3, 153)])⟩ := rfl
@[go_sem] theorem T_157 : T 157 = some ⟨1, 8, false, [.nilfn], .func⟩ := rfl
@[go_sem] theorem T_159 : T 159 = some ⟨1, 8, false, [.nilfn], .func⟩ := rfl
@[go_sem] theorem T_160 : T 160 = some ⟨1, 8, false, [.nilfn], .func⟩ := rfl
@[go_sem] theorem T_162 : T 162 = some ⟨1, 8, false, [.nilfn], .func⟩ := rfl
@[go_sem] theorem T_163 : T 163 = some ⟨1, 8, false, [.nilfn], .func⟩ := rfl
@[go_sem] theorem T_165 : T 165 = some ⟨1, 8, false, [.nilfn], .func⟩ := rfl
@[go_sem] theorem T_167 : T 167 = some ⟨1, 8, false, [.nilfn], .func⟩ := rfl
@[go_sem] theorem T_168 : T 168 = some ⟨1, 8, false, [.nilfn], .func⟩ := rfl
@[go_sem] theorem T_169 : T 169 = some ⟨1, 8, false, [.nilfn], .func⟩ := rfl
@[go_sem] theorem T_170 : T 170 = some ⟨4, 40, true, [.nilp, .nilp, .nilp, .str []], (.struct [(0, 17), (1, 17), (2, 17), (3, 9)])⟩ := rfl
@[go_sem] theorem T_171 : T 171 = some ⟨4, 40, true, [.nilp, .nilp, .nilp, .str []], (.struct [(0, 17), (1, 17), (2, 17), (3, 9)])⟩ := rfl
@[go_sem] theorem T_172 : T 172 = some ⟨0, 0, true, [], (.array 0 16)⟩ := rfl
@[go_sem] theorem T_173 : T 173 = some ⟨0, 0, true, [], (.struct [(0, 172)])⟩ := rfl
@[go_sem] theorem T_174 : T 174 = some ⟨0, 0, true, [], (.struct [(0, 172)])⟩ := rfl
@[go_sem] theorem T_175 : T 175 = some ⟨1, 8, false, [.nilfn], .func⟩ := rfl
@[go_sem] theorem T_176 : T 176 = some ⟨1, 4, false, [.int .u32 0], (.int .u32)⟩ := rfl
@[go_sem] theorem T_177 : T 177 = some ⟨1, 1, false, [.int .u8 0], (.int .u8)⟩ := rfl
@[go_sem] theorem T_178 : T 178 = some ⟨1, 1, false, [.int .u8 0], (.int .u8)⟩ := rfl
@[go_sem] theorem T_179 : T 179 = some ⟨1, 8, false, [.nilfn], .func⟩ := rfl
@[go_sem] theorem T_180 : T 180 = some ⟨1, 8, false, [.nilp], (.ptr 5)⟩ := rfl
@[go_sem] theorem T_181 : T 181 = some ⟨1, 4, false, [.int .i32 0], (.int .i32)⟩ := rfl
@[go_sem] theorem T_182 : T 182 = some ⟨1, 4, false, [.int .i32 0], (.int .i32)⟩ := rfl
@[go_sem] theorem T_183 : T 183 = some ⟨11, 48, true, [.int .u64 0, .int .u64 0, .int .u32 0, .int .u8 0, .int .u8 0, .int .u8 0, .int .u8 0, .nilfn, .nilp, .int .i32 0, .int .i32 0], (.struct [(0, 12), (1, 12), (2, 176), (3, 177), (4, 5), (5, 5), (6, 178), (7, 179), (8, 180), (9, 181), (10, 182)])⟩ := rfl
@[go_sem] theorem T_184 : T 184 = some ⟨11, 48, true, [.int .u64 0, .int .u64 0, .int .u32 0, .int .u8 0, .int .u8 0, .int .u8 0, .int .u8 0, .nilfn, .nilp, .int .i32 0, .int .i32 0], (.struct [(0, 12), (1, 12), (2, 176), (3, 177), (4, 5), (5, 5), (6, 178), (7, 179), (8, 180), (9, 181), (10, 182)])⟩ := rfl
end Go.Av
namespace Go.Av
open Go
theorem ok_3 : FnOK P 3 Go.Proofs.Try.f3 (Go.Proofs.Try.f3.body.getD .skip) := ⟨by kernel_rfl, by kernel_rfl, by kernel_rfl⟩
theorem ok_4 : FnOK P 4 Go.Proofs.Try.f4 (Go.Proofs.Try.f4.body.getD .skip) := ⟨by kernel_rfl, by kernel_rfl, by kernel_rfl⟩
theorem ok_5 : FnOK P 5 Go.Proofs.Try.f5 (Go.Proofs.Try.f5.body.getD .skip) := ⟨by kernel_rfl, by kernel_rfl, by kernel_rfl⟩
theorem ok_6 : FnOK P 6 Go.Proofs.Try.f6 (Go.Proofs.Try.f6.body.getD .skip) := ⟨by kernel_rfl, by kernel_rfl, by kernel_rfl⟩
theorem ok_7 : FnOK P 7 Go.Proofs.Try.f7 (Go.Proofs.Try.f7.body.getD .skip) := ⟨by kernel_rfl, by kernel_rfl, by kernel_rfl⟩
theorem ok_8 : FnOK P 8 Go.Proofs.Try.f8 (Go.Proofs.Try.f8.body.getD .skip) := ⟨by kernel_rfl, by kernel_rfl, by kernel_rfl⟩
theorem ok_9 : FnOK P 9 Go.Proofs.Try.f9 (Go.Proofs.Try.f9.body.getD .skip) := ⟨by kernel_rfl, by kernel_rfl, by kernel_rfl⟩
theorem ok_10 : FnOK P 10 Go.Proofs.Try.f10 (Go.Proofs.Try.f10.body.getD .skip) := ⟨by kernel_rfl, by kernel_rfl, by kernel_rfl⟩
theorem ok_11 : FnOK P 11 Go.Proofs.Try.f11 (Go.Proofs.Try.f11.body.getD .skip) := ⟨by kernel_rfl, by kernel_rfl, by kernel_rfl⟩
theorem ok_12 : FnOK P 12 Go.Proofs.Try.f12 (Go.Proofs.Try.f12.body.getD .skip) := ⟨by kernel_rfl, by kernel_rfl, by kernel_rfl⟩
theorem ok_13 : FnOK P 13 Go.Proofs.Try.f13 (Go.Proofs.Try.f13.body.getD .skip) := ⟨by kernel_rfl, by kernel_rfl, by kernel_rfl⟩
theorem ok_14 : FnOK P 14 Go.Proofs.Try.f14 (Go.Proofs.Try.f14.body.getD .skip) := ⟨by kernel_rfl, by kernel_rfl, by kernel_rfl⟩
theorem ok_15 : FnOK P 15 Go.Proofs.Try.f15 (Go.Proofs.Try.f15.body.getD .skip) := ⟨by kernel_rfl, by kernel_rfl, by kernel_rfl⟩
theorem ok_16 : FnOK P 16 Go.Proofs.Try.f16 (Go.Proofs.Try.f16.body.getD .skip) := ⟨by kernel_rfl, by kernel_rfl, by kernel_rfl⟩
theorem ok_17 : FnOK P 17 Go.Proofs.Try.f17 (Go.Proofs.Try.f17.body.getD .skip) := ⟨by kernel_rfl, by kernel_rfl, by kernel_rfl⟩
theorem ok_18 : FnOK P 18 Go.Proofs.Try.f18 (Go.Proofs.Try.f18.body.getD .skip) := ⟨by kernel_rfl, by kernel_rfl, by kernel_rfl⟩
theorem ok_19 : FnOK P 19 Go.Proofs.Try.f19 (Go.Proofs.Try.f19.body.getD .skip) := ⟨by kernel_rfl, by kernel_rfl, by kernel_rfl⟩
theorem ok_20 : FnOK P 20 Go.Proofs.Try.f20 (Go.Proofs.Try.f20.body.getD .skip) := ⟨by kernel_rfl, by kernel_rfl, by kernel_rfl⟩
theorem ok_21 : FnOK P 21 Go.Proofs.Try.f21 (Go.Proofs.Try.f21.body.getD .skip) := ⟨by kernel_rfl, by kernel_rfl, by kernel_rfl⟩
theorem ok_22 : FnOK P 22 Go.Proofs.Try.f22 (Go.Proofs.Try.f22.body.getD .skip) := ⟨by kernel_rfl, by kernel_rfl, by kernel_rfl⟩
theorem ok_23 : FnOK P 23 Go.Proofs.Try.f23 (Go.Proofs.Try.f23.body.getD .skip) := ⟨by kernel_rfl, by kernel_rfl, by kernel_rfl⟩
theorem ok_24 : FnOK P 24 Go.Proofs.Try.f24 (Go.Proofs.Try.f24.body.getD .skip) := ⟨by kernel_rfl, by kernel_rfl, by kernel_rfl⟩
theorem ok_25 : FnOK P 25 Go.Proofs.Try.f25 (Go.Proofs.Try.f25.body.getD .skip) := ⟨by kernel_rfl, by kernel_rfl, by kernel_rfl⟩
theorem ok_26 : FnOK P 26 Go.Proofs.Try.f26 (Go.Proofs.Try.f26.body.getD .skip) := ⟨by kernel_rfl, by kernel_rfl, by kernel_rfl⟩
theorem ok_27 : FnOK P 27 Go.Proofs.Try.f27 (Go.Proofs.Try.f27.body.getD .skip) := ⟨by kernel_rfl, by kernel_rfl, by kernel_rfl⟩
theorem ok_28 : FnOK P 28 Go.Proofs.Try.f28 (Go.Proofs.Try.f28.body.getD .skip) := ⟨by kernel_rfl, by kernel_rfl, by kernel_rfl⟩
theorem ok_29 : FnOK P 29 Go.Proofs.Try.f29 (Go.Proofs.Try.f29.body.getD .skip) := ⟨by kernel_rfl, by kernel_rfl, by kernel_rfl⟩
theorem ok_30 : FnOK P 30 Go.Proofs.Try.f30 (Go.Proofs.Try.f30.body.getD .skip) := ⟨by kernel_rfl, by kernel_rfl, by kernel_rfl⟩
theorem ok_31 : FnOK P 31 Go.Proofs.Try.f31 (Go.Proofs.Try.f31.body.getD .skip) := ⟨by kernel_rfl, by kernel_rfl, by kernel_rfl⟩
theorem ok_32 : FnOK P 32 Go.Proofs.Try.f32 (Go.Proofs.Try.f32.body.getD .skip) := ⟨by kernel_rfl, by kernel_rfl, by kernel_rfl⟩
theorem ok_33 : FnOK P 33 Go.Proofs.Try.f33 (Go.Proofs.Try.f33.body.getD .skip) := ⟨by kernel_rfl, by kernel_rfl, by kernel_rfl⟩
theorem ok_34 : FnOK P 34 Go.Proofs.Try.f34 (Go.Proofs.Try.f34.body.getD .skip) := ⟨by kernel_rfl, by kernel_rfl, by kernel_rfl⟩
theorem ok_35 : FnOK P 35 Go.Proofs.Try.f35 (Go.Proofs.Try.f35.body.getD .skip) := ⟨by kernel_rfl, by kernel_rfl, by kernel_rfl⟩
theorem ok_36 : FnOK P 36 Go.Proofs.Try.f36 (Go.Proofs.Try.f36.body.getD .skip) := ⟨by kernel_rfl, by kernel_rfl, by kernel_rfl⟩
theorem ok_37 : FnOK P 37 Go.Proofs.Try.f37 (Go.Proofs.Try.f37.body.getD .skip) := ⟨by kernel_rfl, by kernel_rfl, by kernel_rfl⟩
theorem ok_38 : FnOK P 38 Go.Proofs.Try.f38 (Go.Proofs.Try.f38.body.getD .skip) := ⟨by kernel_rfl, by kernel_rfl, by kernel_rfl⟩
theorem ok_39 : FnOK P 39 Go.Proofs.Try.f39 (Go.Proofs.Try.f39.body.getD .skip) := ⟨by kernel_rfl, by kernel_rfl, by kernel_rfl⟩
theorem ok_40 : FnOK P 40 Go.Proofs.Try.f40 (Go.Proofs.Try.f40.body.getD .skip) := ⟨by kernel_rfl, by kernel_rfl, by kernel_rfl⟩
theorem ok_41 : FnOK P 41 Go.Proofs.Try.f41 (Go.Proofs.Try.f41.body.getD .skip) := ⟨by kernel_rfl, by kernel_rfl, by kernel_rfl⟩
theorem ok_42 : FnOK P 42 Go.Proofs.Try.f42 (Go.Proofs.Try.f42.body.getD .skip) := ⟨by kernel_rfl, by kernel_rfl, by kernel_rfl⟩
theorem ok_43 : FnOK P 43 Go.Proofs.Try.f43 (Go.Proofs.Try.f43.body.getD .skip) := ⟨by kernel_rfl, by kernel_rfl, by kernel_rfl⟩
theorem ok_44 : FnOK P 44 Go.Proofs.Try.f44 (Go.Proofs.Try.f44.body.getD .skip) := ⟨by kernel_rfl, by kernel_rfl, by kernel_rfl⟩
theorem ok_45 : FnOK P 45 Go.Proofs.Try.f45 (Go.Proofs.Try.f45.body.getD .skip) := ⟨by kernel_rfl, by kernel_rfl, by kernel_rfl⟩
theorem ok_46 : FnOK P 46 Go.Proofs.Try.f46 (Go.Proofs.Try.f46.body.getD .skip) := ⟨by kernel_rfl, by kernel_rfl, by kernel_rfl⟩
theorem ok_47 : FnOK P 47 Go.Proofs.Try.f47 (Go.Proofs.Try.f47.body.getD .skip) := ⟨by kernel_rfl, by kernel_rfl, by kernel_rfl⟩
theorem ok_48 : FnOK P 48 Go.Proofs.Try.f48 (Go.Proofs.Try.f48.body.getD .skip) := ⟨by kernel_rfl, by kernel_rfl, by kernel_rfl⟩
theorem ok_49 : FnOK P 49 Go.Proofs.Try.f49 (Go.Proofs.Try.f49.body.getD .skip) := ⟨by kernel_rfl, by kernel_rfl, by kernel_rfl⟩
theorem ok_50 : FnOK P 50 Go.Proofs.Try.f50 (Go.Proofs.Try.f50.body.getD .skip) := ⟨by kernel_rfl, by kernel_rfl, by kernel_rfl⟩
theorem ok_51 : FnOK P 51 Go.Proofs.Try.f51 (Go.Proofs.Try.f51.body.getD .skip) := ⟨by kernel_rfl, by kernel_rfl, by kernel_rfl⟩
theorem ok_52 : FnOK P 52 Go.Proofs.Try.f52 (Go.Proofs.Try.f52.body.getD .skip) := ⟨by kernel_rfl, by kernel_rfl, by kernel_rfl⟩
theorem ok_53 : FnOK P 53 Go.Proofs.Try.f53 (Go.Proofs.Try.f53.body.getD .skip) := ⟨by kernel_rfl, by kernel_rfl, by kernel_rfl⟩
theorem ok_54 : FnOK P 54 Go.Proofs.Try.f54 (Go.Proofs.Try.f54.body.getD .skip) := ⟨by kernel_rfl, by kernel_rfl, by kernel_rfl⟩
theorem ok_55 : FnOK P 55 Go.Proofs.Try.f55 (Go.Proofs.Try.f55.body.getD .skip) := ⟨by kernel_rfl, by kernel_rfl, by kernel_rfl⟩
theorem ok_56 : FnOK P 56 Go.Proofs.Try.f56 (Go.Proofs.Try.f56.body.getD .skip) := ⟨by kernel_rfl, by kernel_rfl, by kernel_rfl⟩
theorem ok_57 : FnOK P 57 Go.Proofs.Try.f57 (Go.Proofs.Try.f57.body.getD .skip) := ⟨by kernel_rfl, by kernel_rfl, by kernel_rfl⟩
theorem ok_58 : FnOK P 58 Go.Proofs.Try.f58 (Go.Proofs.Try.f58.body.getD .skip) := ⟨by kernel_rfl, by kernel_rfl, by kernel_rfl⟩
theorem ok_59 : FnOK P 59 Go.Proofs.Try.f59 (Go.Proofs.Try.f59.body.getD .skip) := ⟨by kernel_rfl, by kernel_rfl, by kernel_rfl⟩
theorem ok_60 : FnOK P 60 Go.Proofs.Try.f60 (Go.Proofs.Try.f60.body.getD .skip) := ⟨by kernel_rfl, by kernel_rfl, by kernel_rfl⟩
theorem ok_61 : FnOK P 61 Go.Proofs.Try.f61 (Go.Proofs.Try.f61.body.getD .skip) := ⟨by kernel_rfl, by kernel_rfl, by kernel_rfl⟩
theorem ok_62 : FnOK P 62 Go.Proofs.Try.f62 (Go.Proofs.Try.f62.body.getD .skip) := ⟨by kernel_rfl, by kernel_rfl, by kernel_rfl⟩
theorem ok_63 : FnOK P 63 Go.Proofs.Try.f63 (Go.Proofs.Try.f63.body.getD .skip) := ⟨by kernel_rfl, by kernel_rfl, by kernel_rfl⟩
theorem ok_64 : FnOK P 64 Go.Proofs.Try.f64 (Go.Proofs.Try.f64.body.getD .skip) := ⟨by kernel_rfl, by kernel_rfl, by kernel_rfl⟩
theorem ok_65 : FnOK P 65 Go.Proofs.Try.f65 (Go.Proofs.Try.f65.body.getD .skip) := ⟨by kernel_rfl, by kernel_rfl, by kernel_rfl⟩
theorem ok_66 : FnOK P 66 Go.Proofs.Try.f66 (Go.Proofs.Try.f66.body.getD .skip) := ⟨by kernel_rfl, by kernel_rfl, by kernel_rfl⟩
theorem ok_67 : FnOK P 67 Go.Proofs.Try.f67 (Go.Proofs.Try.f67.body.getD .skip) := ⟨by kernel_rfl, by kernel_rfl, by kernel_rfl⟩
theorem ok_68 : FnOK P 68 Go.Proofs.Try.f68 (Go.Proofs.Try.f68.body.getD .skip) := ⟨by kernel_rfl, by kernel_rfl, by kernel_rfl⟩
theorem ok_69 : FnOK P 69 Go.Proofs.Try.f69 (Go.Proofs.Try.f69.body.getD .skip) := ⟨by kernel_rfl, by kernel_rfl, by kernel_rfl⟩
theorem ok_70 : FnOK P 70 Go.Proofs.Try.f70 (Go.Proofs.Try.f70.body.getD .skip) := ⟨by kernel_rfl, by kernel_rfl, by kernel_rfl⟩
theorem ok_71 : FnOK P 71 Go.Proofs.Try.f71 (Go.Proofs.Try.f71.body.getD .skip) := ⟨by kernel_rfl, by kernel_rfl, by kernel_rfl⟩
theorem ok_72 : FnOK P 72 Go.Proofs.Try.f72 (Go.Proofs.Try.f72.body.getD .skip) := ⟨by kernel_rfl, by kernel_rfl, by kernel_rfl⟩
theorem ok_73 : FnOK P 73 Go.Proofs.Try.f73 (Go.Proofs.Try.f73.body.getD .skip) := ⟨by kernel_rfl, by kernel_rfl, by kernel_rfl⟩
theorem ok_74 : FnOK P 74 Go.Proofs.Try.f74 (Go.Proofs.Try.f74.body.getD .skip) := ⟨by kernel_rfl, by kernel_rfl, by kernel_rfl⟩
theorem ok_75 : FnOK P 75 Go.Proofs.Try.f75 (Go.Proofs.Try.f75.body.getD .skip) := ⟨by kernel_rfl, by kernel_rfl, by kernel_rfl⟩
theorem ok_76 : FnOK P 76 Go.Proofs.Try.f76 (Go.Proofs.Try.f76.body.getD .skip) := ⟨by kernel_rfl, by kernel_rfl, by kernel_rfl⟩
theorem ok_77 : FnOK P 77 Go.Proofs.Try.f77 (Go.Proofs.Try.f77.body.getD .skip) := ⟨by kernel_rfl, by kernel_rfl, by kernel_rfl⟩
theorem ok_78 : FnOK P 78 Go.Proofs.Try.f78 (Go.Proofs.Try.f78.body.getD .skip) := ⟨by kernel_rfl, by kernel_rfl, by kernel_rfl⟩
theorem ok_79 : FnOK P 79 Go.Proofs.Try.f79 (Go.Proofs.Try.f79.body.getD .skip) := ⟨by kernel_rfl, by kernel_rfl, by kernel_rfl⟩
theorem ok_80 : FnOK P 80 Go.Proofs.Try.f80 (Go.Proofs.Try.f80.body.getD .skip) := ⟨by kernel_rfl, by kernel_rfl, by kernel_rfl⟩
theorem ok_81 : FnOK P 81 Go.Proofs.Try.f81 (Go.Proofs.Try.f81.body.getD .skip) := ⟨by kernel_rfl, by kernel_rfl, by kernel_rfl⟩
theorem ok_82 : FnOK P 82 Go.Proofs.Try.f82 (Go.Proofs.Try.f82.body.getD .skip) := ⟨by kernel_rfl, by kernel_rfl, by kernel_rfl⟩
theorem ok_83 : FnOK P 83 Go.Proofs.Try.f83 (Go.Proofs.Try.f83.body.getD .skip) := ⟨by kernel_rfl, by kernel_rfl, by kernel_rfl⟩
theorem ok_84 : FnOK P 84 Go.Proofs.Try.f84 (Go.Proofs.Try.f84.body.getD .skip) := ⟨by kernel_rfl, by kernel_rfl, by kernel_rfl⟩
theorem ok_85 : FnOK P 85 Go.Proofs.Try.f85 (Go.Proofs.Try.f85.body.getD .skip) := ⟨by kernel_rfl, by kernel_rfl, by kernel_rfl⟩
theorem ok_86 : FnOK P 86 Go.Proofs.Try.f86 (Go.Proofs.Try.f86.body.getD .skip) := ⟨by kernel_rfl, by kernel_rfl, by kernel_rfl⟩
theorem ok_87 : FnOK P 87 Go.Proofs.Try.f87 (Go.Proofs.Try.f87.body.getD .skip) := ⟨by kernel_rfl, by kernel_rfl, by kernel_rfl⟩
theorem ok_88 : FnOK P 88 Go.Proofs.Try.f88 (Go.Proofs.Try.f88.body.getD .skip) := ⟨by kernel_rfl, by kernel_rfl, by kernel_rfl⟩
theorem ok_89 : FnOK P 89 Go.Proofs.Try.f89 (Go.Proofs.Try.f89.body.getD .skip) := ⟨by kernel_rfl, by kernel_rfl, by kernel_rfl⟩
theorem ok_90 : FnOK P 90 Go.Proofs.Try.f90 (Go.Proofs.Try.f90.body.getD .skip) := ⟨by kernel_rfl, by kernel_rfl, by kernel_rfl⟩
theorem ok_91 : FnOK P 91 Go.Proofs.Try.f91 (Go.Proofs.Try.f91.body.getD .skip) := ⟨by kernel_rfl, by kernel_rfl, by kernel_rfl⟩
theorem ok_92 : FnOK P 92 Go.Proofs.Try.f92 (Go.Proofs.Try.f92.body.getD .skip) := ⟨by kernel_rfl, by kernel_rfl, by kernel_rfl⟩
theorem ok_93 : FnOK P 93 Go.Proofs.Try.f93 (Go.Proofs.Try.f93.body.getD .skip) := ⟨by kernel_rfl, by kernel_rfl, by kernel_rfl⟩
theorem ok_94 : FnOK P 94 Go.Proofs.Try.f94 (Go.Proofs.Try.f94.body.getD .skip) := ⟨by kernel_rfl, by kernel_rfl, by kernel_rfl⟩
theorem ok_95 : FnOK P 95 Go.Proofs.Try.f95 (Go.Proofs.Try.f95.body.getD .skip) := ⟨by kernel_rfl, by kernel_rfl, by kernel_rfl⟩
theorem ok_96 : FnOK P 96 Go.Proofs.Try.f96 (Go.Proofs.Try.f96.body.getD .skip) := ⟨by kernel_rfl, by kernel_rfl, by kernel_rfl⟩
theorem ok_97 : FnOK P 97 Go.Proofs.Try.f97 (Go.Proofs.Try.f97.body.getD .skip) := ⟨by kernel_rfl, by kernel_rfl, by kernel_rfl⟩
theorem ok_98 : FnOK P 98 Go.Proofs.Try.f98 (Go.Proofs.Try.f98.body.getD .skip) := ⟨by kernel_rfl, by kernel_rfl, by kernel_rfl⟩
theorem ok_99 : FnOK P 99 Go.Proofs.Try.f99 (Go.Proofs.Try.f99.body.getD .skip) := ⟨by kernel_rfl, by kernel_rfl, by kernel_rfl⟩
theorem ok_100 : FnOK P 100 Go.Proofs.Try.f100 (Go.Proofs.Try.f100.body.getD .skip) := ⟨by kernel_rfl, by kernel_rfl, by kernel_rfl⟩
theorem ok_101 : FnOK P 101 Go.Proofs.Try.f101 (Go.Proofs.Try.f101.body.getD .skip) := ⟨by kernel_rfl, by kernel_rfl, by kernel_rfl⟩
theorem ok_102 : FnOK P 102 Go.Proofs.Try.f102 (Go.Proofs.Try.f102.body.getD .skip) := ⟨by kernel_rfl, by kernel_rfl, by kernel_rfl⟩
theorem ok_103 : FnOK P 103 Go.Proofs.Try.f103 (Go.Proofs.Try.f103.body.getD .skip) := ⟨by kernel_rfl, by kernel_rfl, by kernel_rfl⟩
theorem ok_104 : FnOK P 104 Go.Proofs.Try.f104 (Go.Proofs.Try.f104.body.getD .skip) := ⟨by kernel_rfl, by kernel_rfl, by kernel_rfl⟩
theorem ok_105 : FnOK P 105 Go.Proofs.Try.f105 (Go.Proofs.Try.f105.body.getD .skip) := ⟨by kernel_rfl, by kernel_rfl, by kernel_rfl⟩
theorem ok_106 : FnOK P 106 Go.Proofs.Try.f106 (Go.Proofs.Try.f106.body.getD .skip) := ⟨by kernel_rfl, by kernel_rfl, by kernel_rfl⟩
theorem ok_107 : FnOK P 107 Go.Proofs.Try.f107 (Go.Proofs.Try.f107.body.getD .skip) := ⟨by kernel_rfl, by kernel_rfl, by kernel_rfl⟩
theorem ok_108 : FnOK P 108 Go.Proofs.Try.f108 (Go.Proofs.Try.f108.body.getD .skip) := ⟨by kernel_rfl, by kernel_rfl, by kernel_rfl⟩
theorem ok_109 : FnOK P 109 Go.Proofs.Try.f109 (Go.Proofs.Try.f109.body.getD .skip) := ⟨by kernel_rfl, by kernel_rfl, by kernel_rfl⟩
theorem ok_110 : FnOK P 110 Go.Proofs.Try.f110 (Go.Proofs.Try.f110.body.getD .skip) := ⟨by kernel_rfl, by kernel_rfl, by kernel_rfl⟩
theorem ok_111 : FnOK P 111 Go.Proofs.Try.f111 (Go.Proofs.Try.f111.body.getD .skip) := ⟨by kernel_rfl, by kernel_rfl, by kernel_rfl⟩
theorem ok_112 : FnOK P 112 Go.Proofs.Try.f112 (Go.Proofs.Try.f112.body.getD .skip) := ⟨by kernel_rfl, by kernel_rfl, by kernel_rfl⟩
theorem ok_113 : FnOK P 113 Go.Proofs.Try.f113 (Go.Proofs.Try.f113.body.getD .skip) := ⟨by kernel_rfl, by kernel_rfl, by kernel_rfl⟩
theorem ok_114 : FnOK P 114 Go.Proofs.Try.f114 (Go.Proofs.Try.f114.body.getD .skip) := ⟨by kernel_rfl, by kernel_rfl, by kernel_rfl⟩
theorem ok_130 : FnOK P 130 Go.Proofs.Try.f130 (Go.Proofs.Try.f130.body.getD .skip) := ⟨by kernel_rfl, by kernel_rfl, by kernel_rfl⟩
theorem ok_131 : FnOK P 131 Go.Proofs.Try.f131 (Go.Proofs.Try.f131.body.getD .skip) := ⟨by kernel_rfl, by kernel_rfl, by kernel_rfl⟩
theorem ok_132 : FnOK P 132 Go.Proofs.Try.f132 (Go.Proofs.Try.f132.body.getD .skip) := ⟨by kernel_rfl, by kernel_rfl, by kernel_rfl⟩
theorem ok_133 : FnOK P 133 Go.Proofs.Try.f133 (Go.Proofs.Try.f133.body.getD .skip) := ⟨by kernel_rfl, by kernel_rfl, by kernel_rfl⟩
theorem ok_134 : FnOK P 134 Go.Proofs.Try.f134 (Go.Proofs.Try.f134.body.getD .skip) := ⟨by kernel_rfl, by kernel_rfl, by kernel_rfl⟩
theorem ok_135 : FnOK P 135 Go.Proofs.Try.f135 (Go.Proofs.Try.f135.body.getD .skip) := ⟨by kernel_rfl, by kernel_rfl, by kernel_rfl⟩
theorem ok_136 : FnOK P 136 Go.Proofs.Try.f136 (Go.Proofs.Try.f136.body.getD .skip) := ⟨by kernel_rfl, by kernel_rfl, by kernel_rfl⟩
theorem ok_137 : FnOK P 137 Go.Proofs.Try.f137 (Go.Proofs.Try.f137.body.getD .skip) := ⟨by kernel_rfl, by kernel_rfl, by kernel_rfl⟩
end Go.Av
/- The walk: each lemma tries, by its default, the rule that fits the goal. -/
set_option linter.unusedVariables false
set_option linter.unusedSimpArgs false
namespace Go.Av
open Go
structure Hd (p : Prop) : Prop where
  h : p
theorem X1 : 0 + 0 = 0 := rfl
theorem X2 : 0 + 0 = 0 := rfl
theorem X3 : 0 + 0 = 0 := rfl
theorem X4 : 0 + 0 = 0 := rfl
theorem X5 : 0 + 0 = 0 := rfl
theorem X6 : 0 + 0 = 0 := rfl
theorem X7 : 0 + 0 = 0 := rfl
theorem X8 : 0 + 0 = 0 := rfl
theorem X9 : 0 + 0 = 0 := rfl
theorem X10 : 0 + 0 = 0 := rfl
theorem X11 : 0 + 0 = 0 := rfl
theorem X12 : 0 + 0 = 0 := rfl
theorem X13 : 0 + 0 = 0 := rfl
theorem X14 : 0 + 0 = 0 := rfl
theorem X15 : 0 + 0 = 0 := rfl
theorem X16 : 0 + 0 = 0 := rfl
theorem X17 : 0 + 0 = 0 := rfl
theorem X18 : 0 + 0 = 0 := rfl
theorem bneB : (∀ b : Bool, (b != b) = false) ∧ ∀ b : Int, (b != b) = false := ⟨by simp, by simp⟩
theorem beqB : (∀ b : Bool, (b == b) = true) ∧ ∀ b : Int, (b == b) = true := ⟨by simp, by simp⟩
theorem ga {p g : Prop} (hp : p) (h : Hd p → g := by intro h; first | ((with_reducible first | apply ar_w T_ok | apply ar_w0 T_ok | apply ard_w T_ok | apply ard_w0 T_ok); (focus (simp (disch := omega) only [go_sem, Nat.reduceLT, Nat.reduceAdd, Nat.reduceLeDiff, Nat.reduceMul, Nat.reduceEqDiff, Nat.reduceBEq, reduceIte, X1, X2, X3, X4, X5, X6, X7, X8, X9, X10, X11, X12, X13, X14, X15, X16, X17, X18] <;> rfl)); (focus (first | rfl | (simp [okIdsB, Nat.ble_eq]; done) | (simp [X1, X2, X3, X4, X5, X6, X7, X8, X9, X10, X11, X12, X13, X14, X15, X16, X17, X18, okIdsB, Nat.ble_eq]; done))); (focus rfl); (focus (first | trivial | (simp only [preOK]; omega) | exact ⟨by first | trivial | rfl | omega, by assumption, by omega⟩ | (simp [preOK, AllBytes, X1, X2, X3, X4, X5, X6, X7, X8, X9, X10, X11, X12, X13, X14, X15, X16, X17, X18]; first | done | omega) | exact allBytes_byAV _)); (focus (simp only [X1, X2, X3, X4, X5, X6, X7, X8, X9, X10, X11, X12, X13, X14, X15, X16, X17, X18, Heap.puts, Heap.put_app, Heap.put_app0, Heap.put_len, Heap.put, List.length_append, List.length_cons, List.length_nil, Nat.zero_add, Nat.reduceAdd] <;> rfl)); exact h.1) | fail) : g := h ⟨hp⟩
theorem gx {p g : Prop} (hp : p) (h : Hd p → g := by intro h; first | ((with_reducible first | apply ar_w T_ok | apply ar_w0 T_ok | apply ard_w T_ok | apply ard_w0 T_ok); (focus (simp (disch := omega) only [go_sem, Nat.reduceLT, Nat.reduceAdd, Nat.reduceLeDiff, Nat.reduceMul, Nat.reduceEqDiff, Nat.reduceBEq, reduceIte, X1, X2, X3, X4, X5, X6, X7, X8, X9, X10, X11, X12, X13, X14, X15, X16, X17, X18] <;> rfl)); (focus (first | rfl | (simp [okIdsB, Nat.ble_eq]; done) | (simp [X1, X2, X3, X4, X5, X6, X7, X8, X9, X10, X11, X12, X13, X14, X15, X16, X17, X18, okIdsB, Nat.ble_eq]; done))); (focus rfl); (focus (first | trivial | (simp only [preOK]; omega) | exact ⟨by first | trivial | rfl | omega, by assumption, by omega⟩ | (simp [preOK, AllBytes, X1, X2, X3, X4, X5, X6, X7, X8, X9, X10, X11, X12, X13, X14, X15, X16, X17, X18]; first | done | omega) | exact allBytes_byAV _)); (focus (simp only [X1, X2, X3, X4, X5, X6, X7, X8, X9, X10, X11, X12, X13, X14, X15, X16, X17, X18, Heap.puts, Heap.put_app, Heap.put_app0, Heap.put_len, Heap.put, List.length_append, List.length_cons, List.length_nil, Nat.zero_add, Nat.reduceAdd] <;> rfl)); exact h.1) | (with_reducible (first | apply aw_reg_d P_mixed | apply ar_done | apply aw_seq | apply aw_reg | apply aw_block | apply aw_skip | apply aw_exit | apply aw_ret | apply at_n | apply at_e | apply at_r | apply ab_n | apply ab_r | apply ab_e | apply ab_ne rfl | apply an_e | apply an_r | apply am_e | apply am_r); exact h.1) | ((with_reducible apply aw_cond_f); (focus (simp only [go_sem, Nat.reduceLT, Nat.reduceAdd, Nat.reduceLeDiff, Nat.reduceMul, Nat.reduceEqDiff, Nat.reduceBEq, reduceIte, X1, X2, X3, X4, X5, X6, X7, X8, X9, X10, X11, X12, X13, X14, X15, X16, X17, X18] <;> rfl)); exact h.1) | ((with_reducible apply aw_cond_t); (focus (simp only [go_sem, Nat.reduceLT, Nat.reduceAdd, Nat.reduceLeDiff, Nat.reduceMul, Nat.reduceEqDiff, Nat.reduceBEq, reduceIte, X1, X2, X3, X4, X5, X6, X7, X8, X9, X10, X11, X12, X13, X14, X15, X16, X17, X18] <;> rfl)); exact h.1) | ((with_reducible first | apply ae_r | apply ae_n); (focus (simp only [go_sem, Nat.reduceLT, Nat.reduceAdd, Nat.reduceLeDiff, Nat.reduceMul, Nat.reduceEqDiff, Nat.reduceBEq, reduceIte, X1, X2, X3, X4, X5, X6, X7, X8, X9, X10, X11, X12, X13, X14, X15, X16, X17, X18] <;> rfl)); exact h.1) | ((with_reducible apply ard_done); (focus rfl); exact h.1) | fail) : g := h ⟨hp⟩
theorem gg {p g : Prop} (hp : p) (h : Hd p → g := by intro h; first | ((with_reducible first | apply ar_w T_ok | apply ar_w0 T_ok | apply ard_w T_ok | apply ard_w0 T_ok); (focus (simp (disch := omega) only [go_sem, Nat.reduceLT, Nat.reduceAdd, Nat.reduceLeDiff, Nat.reduceMul, Nat.reduceEqDiff, Nat.reduceBEq, reduceIte, X1, X2, X3, X4, X5, X6, X7, X8, X9, X10, X11, X12, X13, X14, X15, X16, X17, X18] <;> rfl)); (focus (first | rfl | (simp [okIdsB, Nat.ble_eq]; done) | (simp [X1, X2, X3, X4, X5, X6, X7, X8, X9, X10, X11, X12, X13, X14, X15, X16, X17, X18, okIdsB, Nat.ble_eq]; done))); (focus rfl); (focus (first | trivial | (simp only [preOK]; omega) | exact ⟨by first | trivial | rfl | omega, by assumption, by omega⟩ | (simp [preOK, AllBytes, X1, X2, X3, X4, X5, X6, X7, X8, X9, X10, X11, X12, X13, X14, X15, X16, X17, X18]; first | done | omega) | exact allBytes_byAV _)); (focus (simp only [X1, X2, X3, X4, X5, X6, X7, X8, X9, X10, X11, X12, X13, X14, X15, X16, X17, X18, Heap.puts, Heap.put_app, Heap.put_app0, Heap.put_len, Heap.put, List.length_append, List.length_cons, List.length_nil, Nat.zero_add, Nat.reduceAdd] <;> rfl)); exact h.1) | ((with_reducible first | apply ar_skip | apply ard_skip); (focus rfl); (focus rfl); exact h.1) | ((with_reducible first | apply ar_pick | apply ard_pick); (focus (simp only [go_sem, Nat.reduceLT, Nat.reduceAdd, Nat.reduceLeDiff, Nat.reduceMul, Nat.reduceEqDiff, Nat.reduceBEq, reduceIte, X1, X2, X3, X4, X5, X6, X7, X8, X9, X10, X11, X12, X13, X14, X15, X16, X17, X18] <;> rfl)); (focus (simp only [go_sem, Nat.reduceLT, Nat.reduceAdd, Nat.reduceLeDiff, Nat.reduceMul, Nat.reduceEqDiff, Nat.reduceBEq, reduceIte, X1, X2, X3, X4, X5, X6, X7, X8, X9, X10, X11, X12, X13, X14, X15, X16, X17, X18] <;> rfl)); (focus rfl); (focus rfl); exact h.1) | (with_reducible (first | apply aw_reg_d P_mixed | apply ar_done | apply aw_seq | apply aw_reg | apply aw_block | apply aw_skip | apply aw_exit | apply aw_ret | apply at_n | apply at_e | apply at_r | apply ab_n | apply ab_r | apply ab_e | apply ab_ne rfl | apply an_e | apply an_r | apply am_e | apply am_r); exact h.1) | ((with_reducible apply aw_cond_f); (focus (simp only [go_sem, Nat.reduceLT, Nat.reduceAdd, Nat.reduceLeDiff, Nat.reduceMul, Nat.reduceEqDiff, Nat.reduceBEq, reduceIte, X1, X2, X3, X4, X5, X6, X7, X8, X9, X10, X11, X12, X13, X14, X15, X16, X17, X18] <;> rfl)); exact h.1) | ((with_reducible apply aw_cond_t); (focus (simp only [go_sem, Nat.reduceLT, Nat.reduceAdd, Nat.reduceLeDiff, Nat.reduceMul, Nat.reduceEqDiff, Nat.reduceBEq, reduceIte, X1, X2, X3, X4, X5, X6, X7, X8, X9, X10, X11, X12, X13, X14, X15, X16, X17, X18] <;> rfl)); exact h.1) | ((with_reducible first | apply ae_r | apply ae_n); (focus (simp only [go_sem, Nat.reduceLT, Nat.reduceAdd, Nat.reduceLeDiff, Nat.reduceMul, Nat.reduceEqDiff, Nat.reduceBEq, reduceIte, X1, X2, X3, X4, X5, X6, X7, X8, X9, X10, X11, X12, X13, X14, X15, X16, X17, X18] <;> rfl)); exact h.1) | ((with_reducible apply ard_done); (focus rfl); exact h.1) | fail) : g := h ⟨hp⟩
theorem gr {p g : Prop} (hp : p) (h : Hd p → g := by intro h; first | ((with_reducible first | apply ar_w T_ok | apply ar_w0 T_ok | apply ard_w T_ok | apply ard_w0 T_ok); (focus (simp (disch := omega) only [go_sem, Nat.reduceLT, Nat.reduceAdd, Nat.reduceLeDiff, Nat.reduceMul, Nat.reduceEqDiff, Nat.reduceBEq, reduceIte, X1, X2, X3, X4, X5, X6, X7, X8, X9, X10, X11, X12, X13, X14, X15, X16, X17, X18] <;> rfl)); (focus (first | rfl | (simp [okIdsB, Nat.ble_eq]; done) | (simp [X1, X2, X3, X4, X5, X6, X7, X8, X9, X10, X11, X12, X13, X14, X15, X16, X17, X18, okIdsB, Nat.ble_eq]; done))); (focus rfl); (focus (first | trivial | (simp only [preOK]; omega) | exact ⟨by first | trivial | rfl | omega, by assumption, by omega⟩ | (simp [preOK, AllBytes, X1, X2, X3, X4, X5, X6, X7, X8, X9, X10, X11, X12, X13, X14, X15, X16, X17, X18]; first | done | omega) | exact allBytes_byAV _)); (focus (simp only [X1, X2, X3, X4, X5, X6, X7, X8, X9, X10, X11, X12, X13, X14, X15, X16, X17, X18, Heap.puts, Heap.put_app, Heap.put_app0, Heap.put_len, Heap.put, List.length_append, List.length_cons, List.length_nil, Nat.zero_add, Nat.reduceAdd] <;> rfl)); exact h.1) | (with_reducible (first | apply aw_reg_d P_mixed | apply ar_done | apply aw_reg | apply at_n); exact h.1) | ((with_reducible apply ard_done); (focus rfl); exact h.1) | fail) : g := h ⟨hp⟩
theorem gd {p q g : Prop} (hp : p) (hq : q) (h : Hd p → Hd q → g := by intro h k; first | ((with_reducible apply aw_cond_d); (focus (simp only [go_sem, Nat.reduceLT, Nat.reduceAdd, Nat.reduceLeDiff, Nat.reduceMul, Nat.reduceEqDiff, Nat.reduceBEq, reduceIte, X1, X2, X3, X4, X5, X6, X7, X8, X9, X10, X11, X12, X13, X14, X15, X16, X17, X18] <;> rfl)); (focus exact h.1); exact k.1) | fail) : g := h ⟨hp⟩ ⟨hq⟩
theorem gc {p q g : Prop} (hp : p) (hq : q) (h : Hd p → Hd q → g := by intro h k; first | ((with_reducible first | apply ar_case | apply ard_case); (focus rfl); (focus (simp only [go_sem, Nat.reduceLT, Nat.reduceAdd, Nat.reduceLeDiff, Nat.reduceMul, Nat.reduceEqDiff, Nat.reduceBEq, reduceIte, X1, X2, X3, X4, X5, X6, X7, X8, X9, X10, X11, X12, X13, X14, X15, X16, X17, X18] <;> rfl)); (focus (intro hcs; simp only [hcs]; (try simp only [decide_eq_true_eq, decide_eq_false_iff_not] at hcs); revert hcs; exact h.1)); (intro hcs; simp only [hcs]; (try simp only [decide_eq_true_eq, decide_eq_false_iff_not] at hcs); revert hcs; exact k.1)) | ((with_reducible apply aw_cond_b); (focus (simp only [go_sem, Nat.reduceLT, Nat.reduceAdd, Nat.reduceLeDiff, Nat.reduceMul, Nat.reduceEqDiff, Nat.reduceBEq, reduceIte, X1, X2, X3, X4, X5, X6, X7, X8, X9, X10, X11, X12, X13, X14, X15, X16, X17, X18] <;> rfl)); (focus (intro hcs; (try simp only [decide_eq_true_eq, decide_eq_false_iff_not] at hcs); revert hcs; exact h.1)); (intro hcs; (try simp only [decide_eq_true_eq, decide_eq_false_iff_not] at hcs); revert hcs; exact k.1)) | fail) : g := h ⟨hp⟩ ⟨hq⟩
theorem ge {p q g : Prop} (hp : p) (hq : q) (h : Hd p → Hd q → g := by intro h k; first | ((with_reducible first | apply ar_case | apply ard_case); (focus rfl); (focus (simp only [go_sem, Nat.reduceLT, Nat.reduceAdd, Nat.reduceLeDiff, Nat.reduceMul, Nat.reduceEqDiff, Nat.reduceBEq, reduceIte, X1, X2, X3, X4, X5, X6, X7, X8, X9, X10, X11, X12, X13, X14, X15, X16, X17, X18] <;> rfl)); (focus (intro hcs; simp only [hcs]; (try simp only [decide_eq_true_eq, decide_eq_false_iff_not, beq_iff_eq, beq_eq_false_iff_ne, ne_eq] at hcs); revert hcs; exact h.1)); (intro hcs; simp only [hcs]; (try simp only [decide_eq_true_eq, decide_eq_false_iff_not, beq_iff_eq, beq_eq_false_iff_ne, ne_eq] at hcs); revert hcs; exact k.1)) | ((with_reducible apply aw_cond_b); (focus (simp only [go_sem, Nat.reduceLT, Nat.reduceAdd, Nat.reduceLeDiff, Nat.reduceMul, Nat.reduceEqDiff, Nat.reduceBEq, reduceIte, X1, X2, X3, X4, X5, X6, X7, X8, X9, X10, X11, X12, X13, X14, X15, X16, X17, X18] <;> rfl)); (focus (intro hcs; (try simp only [decide_eq_true_eq, decide_eq_false_iff_not, beq_iff_eq, beq_eq_false_iff_ne, ne_eq] at hcs); revert hcs; exact h.1)); (intro hcs; (try simp only [decide_eq_true_eq, decide_eq_false_iff_not, beq_iff_eq, beq_eq_false_iff_ne, ne_eq] at hcs); revert hcs; exact k.1)) | fail) : g := h ⟨hp⟩ ⟨hq⟩
theorem eva {α : Type} {a b : α} (h : a = b := by simp only [go_sem, Nat.reduceLT, Nat.reduceAdd, Nat.reduceLeDiff, Nat.reduceMul, Nat.reduceEqDiff, Nat.reduceBEq, reduceIte, List.map, X1, X2, X3, X4, X5, X6, X7, X8, X9, X10, X11, X12, X13, X14, X15, X16, X17, X18] <;> rfl) : a = b := h
theorem ep {p g : Prop} (hp : p) (h : Hd p → g := by intro h; first | ((simp only [List.all_cons, List.all_nil, List.reverse_cons, List.reverse_nil, List.nil_append, List.cons_append, List.append_assoc, effOf, List.getElem?_cons_zero, List.getElem?_cons_succ, apartH, Bool.and_true, Bool.true_and, List.contains_nil, Bool.not_false, Bool.and_eq_true, and_true, true_and, and_self]); exact h.1) | (have ht : True := h.1; (simp only [List.all_cons, List.all_nil, List.reverse_cons, List.reverse_nil, List.nil_append, List.cons_append, List.append_assoc, effOf, List.getElem?_cons_zero, List.getElem?_cons_succ, apartH, Bool.and_true, Bool.true_and, List.contains_nil, Bool.not_false, Bool.and_eq_true, and_true, true_and, and_self]); done) | fail) : g := h ⟨hp⟩
theorem sb {e e2 : Env} (h : subP e e2 := by simp [subP, Env.get, Weak.refl]) : subP e e2 := h
end Go.Av
set_option linter.unusedVariables false
set_option linter.unusedSimpArgs false
namespace Go.Av
open Go

/-- a value as a tree -/
inductive GV where
  | mk (k n : Int) (t : List UInt8) (l : List GV) (ns : List (List UInt8))

def strs (l : List (List UInt8)) : List (List AV) := l.map fun s => [.str s]
mutual
def GV.enc : GV → List AV
  | ⟨k, n, t, l, ns⟩ => [.int .i64 k, .int .i64 n, .str t, .fsl 5 (encs l), .fsl 1 (strs ns)]
def encs : List GV → List (List AV)
  | [] => []
  | v :: r => v.enc :: encs r
end
mutual
def GV.size : GV → Nat
  | ⟨_, _, _, l, _⟩ => 1 + sizes l
def sizes : List GV → Nat
  | [] => 1
  | v :: r => v.size + sizes r
end
abbrev I64 (x : Int) : Prop := -9223372036854775808 ≤ x ∧ x ≤ 9223372036854775807
/-- lengths that stay within the bounds of a claim -/
abbrev Len {α : Type} (l : List α) : Prop := (l.length : Int) ≤ 1048576
mutual
def GV.fits : GV → Prop
  | ⟨k, n, t, l, ns⟩ => I64 k ∧ I64 n ∧ Len t ∧ Len l ∧ fitss l ∧ Len ns ∧ ∀ s ∈ ns, Len s
def fitss : List GV → Prop
  | [] => True
  | v :: r => v.fits ∧ fitss r
end

theorem strs_len (xs : List (List UInt8)) : (strs xs).length = xs.length := by simp [strs]
theorem strs_get {xs : List (List UInt8)} {i : Nat} (h : i < xs.length) : (strs xs).getD i [] = [.str (xs.getD i [])] := by
  simp [strs, List.getD_eq_getElem?_getD, h]
theorem encs_eq : ∀ l : List GV, encs l = l.map GV.enc
  | [] => rfl
  | v :: r => by simp [encs, encs_eq r]
theorem encs_len (l : List GV) : (encs l).length = l.length := by simp [encs_eq]
theorem enc_len (v : GV) : v.enc.length = 5 := by cases v; rfl
theorem enc_take (v : GV) : takeN 5 v.enc = some v.enc := by cases v; rfl
theorem enc_all (v : GV) : v.enc.all AV.isCell = true := by cases v; rfl
theorem enc_frz (v : GV) : frzL v.enc = some v.enc := by cases v; rfl
instance : Inhabited GV := ⟨.mk 0 0 [] [] []⟩
theorem encs_take {l : List GV} {i : Nat} (h : i < l.length) : encs (l.take (i + 1)) = encs (l.take i) ++ [(l.getD i default).enc] := by
  rw [List.take_succ_eq_append_getElem h, encs_eq, encs_eq, List.map_append, List.getD_eq_getElem?_getD, List.getElem?_eq_getElem h]; rfl
theorem strs_take {l : List (List UInt8)} {i : Nat} (h : i < l.length) : strs (l.take (i + 1)) = strs (l.take i) ++ [[.str (l.getD i [])]] := by
  rw [List.take_succ_eq_append_getElem h, strs, strs, List.map_append, List.getD_eq_getElem?_getD, List.getElem?_eq_getElem h]; rfl
theorem encs_get {l : List GV} {i : Nat} (h : i < l.length) : (encs l).getD i [] = (l.getD i default).enc := by
  simp [encs_eq, List.getD_eq_getElem?_getD, h]
theorem mem_getD {α : Type} {xs : List α} {i : Nat} {d : α} (h : i < xs.length) : xs.getD i d ∈ xs := by
  simp [List.getD_eq_getElem?_getD, h]
theorem fitss_mem : ∀ {l : List GV}, fitss l → ∀ v ∈ l, v.fits
  | [], _, v, h => by cases h
  | w :: r, hf, v, h => by
    cases h with
    | head => exact hf.1
    | tail _ h => exact fitss_mem hf.2 v h
theorem sizes_pos : ∀ l : List GV, 0 < sizes l
  | [] => by simp [sizes]
  | v :: r => by simp only [sizes]; have := sizes_pos r; omega
theorem sizes_mem : ∀ {l : List GV} {v : GV}, v ∈ l → v.size < sizes l
  | w :: r, v, h => by
    cases h with
    | head => simp only [sizes]; have := sizes_pos r; omega
    | tail _ h => have := sizes_mem h; simp only [sizes]; omega
theorem drop_cons {α : Type} {xs : List α} {i : Nat} (d : α) (h : i < xs.length) : xs.drop i = xs.getD i d :: xs.drop (i + 1) := by
  rw [List.drop_eq_getElem_cons h]
  simp [List.getD_eq_getElem?_getD, h]

/-! ### sizes -/
def szStrsGo : List (List UInt8) → Int → Int
  | [], l => l
  | s :: r, l => if l - s.length < 0 then -1 else szStrsGo r (l - s.length)
def szStrs (xs : List (List UInt8)) (l : Int) : Int := if l - xs.length < 0 then -1 else szStrsGo xs (l - xs.length)
theorem szStrsGo_le : ∀ {xs : List (List UInt8)} {l : Int}, 0 ≤ l → -1 ≤ szStrsGo xs l ∧ szStrsGo xs l ≤ l
  | [], l, h => by simp [szStrsGo]; omega
  | s :: r, l, h => by
    simp only [szStrsGo]
    split
    · omega
    · have := szStrsGo_le (xs := r) (l := l - s.length) (by omega); omega
theorem szStrs_le {xs : List (List UInt8)} {l : Int} (h : 0 ≤ l) : -1 ≤ szStrs xs l ∧ szStrs xs l ≤ l := by
  unfold szStrs
  split
  · omega
  · have := szStrsGo_le (xs := xs) (l := l - xs.length) (by omega); omega

set_option maxRecDepth 10000
theorem szStringS_ok (xs : List (List UInt8)) (l : Int) (h0 : 0 ≤ l) (h1 : l ≤ 1048576) (h2 : Len xs) (h3 : ∀ s ∈ xs, Len s) :
    PCall P 93 [.fsl 1 (strs xs), .int .i64 l] (.int .i64 (szStrs xs l)) := by
  refine pcall_of_fcall (fcall_walk T_ok ok_93 rfl ?_)
  unfold Go.Proofs.Try.f93
  simp only [Option.getD_some, envOf, Nat.zero_add, Nat.reduceAdd]
  (all_goals (have X1 := @strs_get; have X2 := @strs_len; (repeat' (first | refine gx ?_ | (refine gd ?_ ?_ <;> (intro hcond; try (exfalso; omega))) | fail)); all_goals try clear X1 X2))
  · simp [aresV, szStrs, hcond, frz]
  · refine aw_loopc (fun k env H => ∃ (i : Nat) (m : Int), i ≤ xs.length ∧ k = xs.length - i ∧ 0 ≤ m ∧ m ≤ l ∧ szStrsGo (xs.drop i) m = szStrs xs l ∧ H = [] ∧ env = [(0, .fsl 1 (strs xs)), (1, .int .i64 m), (5, .int .i64 i)]) xs.length
      [(0, .fsl 1 (strs xs)), (1, .int .i64 (l - xs.length)), (5, .int .i64 0)] [] sb rfl trivial rfl rfl ⟨0, l - xs.length, Nat.zero_le _, rfl, by omega, by omega, by simp [szStrs, hcond], rfl, rfl⟩ ?_
    rintro k env H ⟨i, m, hi, hk, hm0, hm1, hgo, rfl, rfl⟩
    by_cases hlt : i < xs.length
    · have hb := h3 _ (mem_getD (d := []) hlt)
      rw [drop_cons [] hlt, szStrsGo] at hgo
      (all_goals (have X1 := @strs_get; have X2 := @strs_len; (repeat' (first | refine gx ?_ | (refine gd ?_ ?_ <;> (intro hcond; try (exfalso; omega))) | fail)); all_goals try clear X1 X2))
      · rw [if_pos hcond] at hgo; simp [aresV, frz, ← hgo]
      · rw [if_neg hcond] at hgo
        exact anext0 [(0, .fsl 1 (strs xs)), (1, .int .i64 (m - (xs.getD i []).length)), (5, .int .i64 (i + 1 : Nat))] [] (k' := xs.length - (i + 1)) (by omega) sb rfl trivial rfl rfl
          ⟨i + 1, _, by omega, rfl, by omega, by omega, hgo, rfl, rfl⟩
    · have : i = xs.length := by omega
      subst this
      (all_goals (have X1 := @strs_get; have X2 := @strs_len; (repeat' (first | refine gx ?_ | (refine gd ?_ ?_ <;> (intro hcond; try (exfalso; omega))) | fail)); all_goals try clear X1 X2))
      simp [szStrsGo] at hgo
      simp [aresV, frz, hgo]

mutual
def szV : GV → Int → Int
  | ⟨_, _, t, l, ns⟩, x => if x - t.length < 0 then -1 else
      if (if x - t.length - l.length < 0 then -1 else szVs l (x - t.length - l.length)) < 0 then -1 else
      if szStrs ns (if x - t.length - l.length < 0 then -1 else szVs l (x - t.length - l.length)) < 0 then -1 else
        szStrs ns (if x - t.length - l.length < 0 then -1 else szVs l (x - t.length - l.length))
def szVs : List GV → Int → Int
  | [], x => x
  | v :: r, x => if szV v x < 0 then -1 else szVs r (szV v x)
end
def szVS (l : List GV) (x : Int) : Int := if x - l.length < 0 then -1 else szVs l (x - l.length)

theorem szV_eq (k n : Int) (t : List UInt8) (l : List GV) (ns : List (List UInt8)) (x : Int) : szV ⟨k, n, t, l, ns⟩ x =
    if x - t.length < 0 then -1 else if szVS l (x - t.length) < 0 then -1 else if szStrs ns (szVS l (x - t.length)) < 0 then -1 else szStrs ns (szVS l (x - t.length)) := by
  simp only [szV, szVS]; rfl

mutual
theorem szV_le : ∀ (v : GV) {x : Int}, 0 ≤ x → -1 ≤ szV v x ∧ szV v x ≤ x
  | ⟨k, n, t, l, ns⟩, x, h => by
    rw [szV_eq]
    split
    · omega
    · have h1 : -1 ≤ szVS l (x - t.length) ∧ szVS l (x - t.length) ≤ x - t.length := by
        unfold szVS
        split
        · omega
        · have := szVs_le l (x := x - t.length - l.length) (by omega); omega
      split
      · omega
      · have h2 := szStrs_le (xs := ns) (l := szVS l (x - t.length)) (by omega)
        split <;> omega
theorem szVs_le : ∀ (l : List GV) {x : Int}, 0 ≤ x → -1 ≤ szVs l x ∧ szVs l x ≤ x
  | [], x, h => by simp [szVs]; omega
  | v :: r, x, h => by
    simp only [szVs]
    have h1 := szV_le v h
    split
    · omega
    · have := szVs_le r (x := szV v x) (by omega); omega
end
theorem szVS_le (l : List GV) {x : Int} (h : 0 ≤ x) : -1 ≤ szVS l x ∧ szVS l x ≤ x := by
  unfold szVS
  split
  · omega
  · have := szVs_le l (x := x - l.length) (by omega); omega

theorem szValue_ok (v : GV) (x : Int) (h0 : 0 ≤ x) (h1 : x ≤ 1048576) (hf : v.fits)
    (ih : ∀ l y, sizes l < v.size → 0 ≤ y → y ≤ 1048576 → Len l → fitss l → PCall P 92 [.fsl 5 (encs l), .int .i64 y] (.int .i64 (szVS l y))) :
    PCall P 66 [.agg v.enc, .int .i64 x] (.int .i64 (szV v x)) := by
  obtain ⟨k, n, t, l, ns⟩ := v
  obtain ⟨f1, f2, f3, f4, f5, f6, f7⟩ := hf
  refine pcall_of_fcall (fcall_walk T_ok ok_66 rfl ?_)
  unfold Go.Proofs.Try.f66
  simp only [Option.getD_some, envOf, Nat.zero_add, Nat.reduceAdd, GV.enc]
  rw [szV_eq]
  have hl := szVS_le l (x := x - t.length)
  (all_goals (have X1 := @strs_get; have X2 := @strs_len; (repeat' (first | refine gx ?_ | (refine gd ?_ ?_ <;> (intro hcond; try (exfalso; omega))) | fail)); all_goals try clear X1 X2))
  · simp [aresV, frz, hcond]
  rw [if_neg hcond]
  (have X1 := @strs_get; have X2 := @strs_len; ((apply ar_call rfl ok_92); (focus exact eva); (focus exact ih l _ (by simp only [GV.size]; omega) (by omega) (by omega) f4 f5); (focus rfl); (focus rfl)); all_goals try clear X1 X2)
  (all_goals (have X1 := @strs_get; have X2 := @strs_len; (repeat' (first | refine gx ?_ | (refine gd ?_ ?_ <;> (intro hcond; try (exfalso; omega))) | fail)); all_goals try clear X1 X2))
  · simp [aresV, frz, hcond]
  rw [if_neg hcond]
  have hl2 := szStrs_le (xs := ns) (l := szVS l (x - t.length))
  (have X1 := @strs_get; have X2 := @strs_len; ((apply ar_call rfl ok_93); (focus exact eva); (focus exact szStringS_ok ns _ (by omega) (by omega) f6 f7); (focus rfl); (focus rfl)); all_goals try clear X1 X2)
  (all_goals (have X1 := @strs_get; have X2 := @strs_len; (repeat' (first | refine gx ?_ | (refine gd ?_ ?_ <;> (intro hcond; try (exfalso; omega))) | fail)); all_goals try clear X1 X2))
  · simp [aresV, frz, hcond]
  · simp [aresV, frz, hcond]

theorem szValueS_ok (l : List GV) (x : Int) (h0 : 0 ≤ x) (h1 : x ≤ 1048576) (h2 : Len l) (hf : fitss l)
    (ih : ∀ v y, v ∈ l → 0 ≤ y → y ≤ 1048576 → v.fits → PCall P 66 [.agg v.enc, .int .i64 y] (.int .i64 (szV v y))) :
    PCall P 92 [.fsl 5 (encs l), .int .i64 x] (.int .i64 (szVS l x)) := by
  refine pcall_of_fcall (fcall_walk T_ok ok_92 rfl ?_)
  unfold Go.Proofs.Try.f92
  simp only [Option.getD_some, envOf, Nat.zero_add, Nat.reduceAdd]
  (all_goals (have X1 := @encs_get; have X2 := @encs_len; have X3 := @enc_len; have X4 := @enc_take; have X5 := @enc_frz; (repeat' (first | refine gx ?_ | (refine gd ?_ ?_ <;> (intro hcond; try (exfalso; omega))) | fail)); all_goals try clear X1 X2 X3 X4 X5))
  · simp [aresV, szVS, hcond, frz]
  · refine aw_loopc (fun k env H => ∃ (i : Nat) (m : Int), i ≤ l.length ∧ k = l.length - i ∧ 0 ≤ m ∧ m ≤ x ∧ szVs (l.drop i) m = szVS l x ∧ H = [] ∧ env = [(0, .fsl 5 (encs l)), (1, .int .i64 m), (5, .int .i64 i)]) l.length
      [(0, .fsl 5 (encs l)), (1, .int .i64 (x - l.length)), (5, .int .i64 0)] [] sb rfl trivial rfl rfl ⟨0, x - l.length, Nat.zero_le _, rfl, by omega, by omega, by simp [szVS, hcond], rfl, rfl⟩ ?_
    rintro k env H ⟨i, m, hi, hk, hm0, hm1, hgo, rfl, rfl⟩
    by_cases hlt : i < l.length
    · have hmem := mem_getD (d := default) hlt
      have hff := fitss_mem hf _ hmem
      have hle := szV_le (l.getD i default) hm0
      rw [drop_cons default hlt, szVs] at hgo
      (all_goals (have X1 := @encs_get; have X2 := @encs_len; have X3 := @enc_len; have X4 := @enc_take; have X5 := @enc_frz; (repeat' (first | refine gx ?_ | (refine gd ?_ ?_ <;> (intro hcond; try (exfalso; omega))) | fail)); all_goals try clear X1 X2 X3 X4 X5))
      (have X1 := @encs_get; have X2 := @encs_len; have X3 := @enc_len; have X4 := @enc_take; have X5 := @enc_frz; ((apply ar_call rfl ok_66); (focus exact eva); (focus exact ih _ m hmem hm0 (by omega) hff); (focus rfl); (focus rfl)); all_goals try clear X1 X2 X3 X4 X5)
      (all_goals (have X1 := @encs_get; have X2 := @encs_len; have X3 := @enc_len; have X4 := @enc_take; have X5 := @enc_frz; (repeat' (first | refine gx ?_ | (refine gd ?_ ?_ <;> (intro hcond; try (exfalso; omega))) | fail)); all_goals try clear X1 X2 X3 X4 X5))
      · rw [if_pos hcond] at hgo; simp [aresV, frz, ← hgo]
      · rw [if_neg hcond] at hgo
        exact anext0 [(0, .fsl 5 (encs l)), (1, .int .i64 (szV (l.getD i default) m)), (5, .int .i64 (i + 1 : Nat))] [] (k' := l.length - (i + 1)) (by omega) sb rfl trivial rfl rfl
          ⟨i + 1, _, by omega, rfl, by omega, by omega, hgo, rfl, rfl⟩
    · have : i = l.length := by omega
      subst this
      (all_goals (have X1 := @encs_get; have X2 := @encs_len; have X3 := @enc_len; have X4 := @enc_take; have X5 := @enc_frz; (repeat' (first | refine gx ?_ | (refine gd ?_ ?_ <;> (intro hcond; try (exfalso; omega))) | fail)); all_goals try clear X1 X2 X3 X4 X5))
      simp [szVs] at hgo
      simp [aresV, frz, hgo]

theorem sz_all (N : Nat) : (∀ (v : GV) (x : Int), v.size < N → 0 ≤ x → x ≤ 1048576 → v.fits → PCall P 66 [.agg v.enc, .int .i64 x] (.int .i64 (szV v x))) ∧
    (∀ (l : List GV) (x : Int), sizes l < N → 0 ≤ x → x ≤ 1048576 → Len l → fitss l → PCall P 92 [.fsl 5 (encs l), .int .i64 x] (.int .i64 (szVS l x))) := by
  induction N with
  | zero => exact ⟨fun v x h => by omega, fun l x h => by omega⟩
  | succ N ih =>
    have h1 : ∀ (l : List GV) (x : Int), sizes l < N + 1 → 0 ≤ x → x ≤ 1048576 → Len l → fitss l → PCall P 92 [.fsl 5 (encs l), .int .i64 x] (.int .i64 (szVS l x)) :=
      fun l x h a b c d => szValueS_ok l x a b c d fun v y hv e f g => ih.1 v y (by have := sizes_mem hv; omega) e f g
    exact ⟨fun v x h a b c => szValue_ok v x a b c fun l y hl e f g i => h1 l y (by omega) e f g i, h1⟩
theorem szValue_all (v : GV) (x : Int) (h0 : 0 ≤ x) (h1 : x ≤ 1048576) (hf : v.fits) : PCall P 66 [.agg v.enc, .int .i64 x] (.int .i64 (szV v x)) :=
  (sz_all (v.size + 1)).1 v x (by omega) h0 h1 hf

/-! ### nodes -/
structure GN where
  id : Int
  ty : List UInt8
  cells : GV
instance : Inhabited GN := ⟨0, [], default⟩
def GN.enc (n : GN) : List AV := .int .i64 n.id :: .str n.ty :: n.cells.enc
def encn (l : List GN) : List (List AV) := l.map GN.enc
def GN.fits (n : GN) : Prop := I64 n.id ∧ Len n.ty ∧ n.cells.fits
theorem encn_len (l : List GN) : (encn l).length = l.length := by simp [encn]
theorem encn_get {l : List GN} {i : Nat} (h : i < l.length) : (encn l).getD i [] = (l.getD i default).enc := by
  simp [encn, List.getD_eq_getElem?_getD, h]
theorem nenc_len (v : GN) : v.enc.length = 7 := by simp [GN.enc, enc_len]
theorem nenc_frz (v : GN) : frzL v.enc = some v.enc := by
  obtain ⟨a, b, c⟩ := v; cases c; rfl
theorem nenc_take (v : GN) : takeN 7 v.enc = some v.enc := by
  obtain ⟨a, b, c⟩ := v; cases c; rfl
def szN (n : GN) (x : Int) : Int := if x - n.ty.length < 0 then -1 else if szV n.cells (x - n.ty.length) < 0 then -1 else szV n.cells (x - n.ty.length)
def szNs : List GN → Int → Int
  | [], x => x
  | v :: r, x => if szN v x < 0 then -1 else szNs r (szN v x)
def szNS (l : List GN) (x : Int) : Int := if x - l.length < 0 then -1 else szNs l (x - l.length)
theorem szN_le (v : GN) {x : Int} (h : 0 ≤ x) : -1 ≤ szN v x ∧ szN v x ≤ x := by
  unfold szN
  split
  · omega
  · have := szV_le v.cells (x := x - v.ty.length) (by omega)
    split <;> omega
theorem szNs_le : ∀ (l : List GN) {x : Int}, 0 ≤ x → -1 ≤ szNs l x ∧ szNs l x ≤ x
  | [], x, h => by simp [szNs]; omega
  | v :: r, x, h => by
    simp only [szNs]
    have h1 := szN_le v h
    split
    · omega
    · have := szNs_le r (x := szN v x) (by omega); omega
theorem szNS_le (l : List GN) {x : Int} (h : 0 ≤ x) : -1 ≤ szNS l x ∧ szNS l x ≤ x := by
  unfold szNS
  split
  · omega
  · have := szNs_le l (x := x - l.length) (by omega); omega

theorem szNode_ok (v : GN) (x : Int) (h0 : 0 ≤ x) (h1 : x ≤ 1048576) (hf : v.fits) : PCall P 27 [.agg v.enc, .int .i64 x] (.int .i64 (szN v x)) := by
  obtain ⟨id, ty, c⟩ := v
  obtain ⟨f1, f2, f3⟩ := hf
  dsimp only at f1 f2 f3
  refine pcall_of_fcall (fcall_walk T_ok ok_27 rfl ?_)
  unfold Go.Proofs.Try.f27
  simp only [Option.getD_some, envOf, Nat.zero_add, Nat.reduceAdd, szN]
  (all_goals (have X1 := @enc_len; have X2 := @enc_take; have X3 := @GN.enc.eq_1; have X4 := @enc_all; have X5 := @enc_frz; (repeat' (first | refine gx ?_ | (refine gd ?_ ?_ <;> (intro hcond; try (exfalso; omega))) | fail)); all_goals try clear X1 X2 X3 X4 X5))
  · simp [aresV, frz, hcond]
  rw [if_neg hcond]
  (have X1 := @enc_len; have X2 := @enc_take; have X3 := @GN.enc.eq_1; have X4 := @enc_all; have X5 := @enc_frz; ((apply ar_call rfl ok_66); (focus exact eva); (focus exact szValue_all c _ (by omega) (by omega) f3); (focus rfl); (focus rfl)); all_goals try clear X1 X2 X3 X4 X5)
  (all_goals (have X1 := @enc_len; have X2 := @enc_take; have X3 := @GN.enc.eq_1; have X4 := @enc_all; have X5 := @enc_frz; (repeat' (first | refine gx ?_ | (refine gd ?_ ?_ <;> (intro hcond; try (exfalso; omega))) | fail)); all_goals try clear X1 X2 X3 X4 X5))
  · simp [aresV, frz, hcond]
  · simp [aresV, frz, hcond]

theorem szNodeS_ok (l : List GN) (x : Int) (h0 : 0 ≤ x) (h1 : x ≤ 1048576) (h2 : Len l) (hf : ∀ v ∈ l, v.fits) : PCall P 6 [.fsl 7 (encn l), .int .i64 x] (.int .i64 (szNS l x)) := by
  refine pcall_of_fcall (fcall_walk T_ok ok_6 rfl ?_)
  unfold Go.Proofs.Try.f6
  simp only [Option.getD_some, envOf, Nat.zero_add, Nat.reduceAdd]
  (all_goals (have X1 := @encn_get; have X2 := @encn_len; have X3 := @nenc_len; have X4 := @nenc_take; have X5 := @nenc_frz; (repeat' (first | refine gx ?_ | (refine gd ?_ ?_ <;> (intro hcond; try (exfalso; omega))) | fail)); all_goals try clear X1 X2 X3 X4 X5))
  · simp [aresV, szNS, hcond, frz]
  · refine aw_loopc (fun k env H => ∃ (i : Nat) (m : Int), i ≤ l.length ∧ k = l.length - i ∧ 0 ≤ m ∧ m ≤ x ∧ szNs (l.drop i) m = szNS l x ∧ H = [] ∧ env = [(0, .fsl 7 (encn l)), (1, .int .i64 m), (5, .int .i64 i)]) l.length
      [(0, .fsl 7 (encn l)), (1, .int .i64 (x - l.length)), (5, .int .i64 0)] [] sb rfl trivial rfl rfl ⟨0, x - l.length, Nat.zero_le _, rfl, by omega, by omega, by simp [szNS, hcond], rfl, rfl⟩ ?_
    rintro k env H ⟨i, m, hi, hk, hm0, hm1, hgo, rfl, rfl⟩
    by_cases hlt : i < l.length
    · have hmem := mem_getD (d := default) hlt
      have hff := hf _ hmem
      have hle := szN_le (l.getD i default) hm0
      rw [drop_cons default hlt, szNs] at hgo
      (all_goals (have X1 := @encn_get; have X2 := @encn_len; have X3 := @nenc_len; have X4 := @nenc_take; have X5 := @nenc_frz; (repeat' (first | refine gx ?_ | (refine gd ?_ ?_ <;> (intro hcond; try (exfalso; omega))) | fail)); all_goals try clear X1 X2 X3 X4 X5))
      (have X1 := @encn_get; have X2 := @encn_len; have X3 := @nenc_len; have X4 := @nenc_take; have X5 := @nenc_frz; ((apply ar_call rfl ok_27); (focus exact eva); (focus exact szNode_ok _ m hm0 (by omega) hff); (focus rfl); (focus rfl)); all_goals try clear X1 X2 X3 X4 X5)
      (all_goals (have X1 := @encn_get; have X2 := @encn_len; have X3 := @nenc_len; have X4 := @nenc_take; have X5 := @nenc_frz; (repeat' (first | refine gx ?_ | (refine gd ?_ ?_ <;> (intro hcond; try (exfalso; omega))) | fail)); all_goals try clear X1 X2 X3 X4 X5))
      · rw [if_pos hcond] at hgo; simp [aresV, frz, ← hgo]
      · rw [if_neg hcond] at hgo
        exact anext0 [(0, .fsl 7 (encn l)), (1, .int .i64 (szN (l.getD i default) m)), (5, .int .i64 (i + 1 : Nat))] [] (k' := l.length - (i + 1)) (by omega) sb rfl trivial rfl rfl
          ⟨i + 1, _, by omega, rfl, by omega, by omega, hgo, rfl, rfl⟩
    · have : i = l.length := by omega
      subst this
      (all_goals (have X1 := @encn_get; have X2 := @encn_len; have X3 := @nenc_len; have X4 := @nenc_take; have X5 := @nenc_frz; (repeat' (first | refine gx ?_ | (refine gd ?_ ?_ <;> (intro hcond; try (exfalso; omega))) | fail)); all_goals try clear X1 X2 X3 X4 X5))
      simp [szNs] at hgo
      simp [aresV, frz, hgo]
end Go.Av
set_option linter.unusedVariables false
set_option linter.unusedSimpArgs false
namespace Go.Av
open Go
set_option maxRecDepth 10000

def isLet (b : UInt8) : Bool := (97 ≤ b.toNat && b.toNat ≤ 122) || (65 ≤ b.toNat && b.toNat ≤ 90) || b.toNat == 95
def isFig (b : UInt8) : Bool := 48 ≤ b.toNat && b.toNat ≤ 57

theorem l1Letter_ok (b : UInt8) : PCall P 87 [.int .u8 b.toNat] (.bool (isLet b)) := by
  refine pcall_of_fcall (fcall_walk T_ok ok_87 rfl ?_)
  unfold Go.Proofs.Try.f87
  simp only [Option.getD_some, envOf, Nat.zero_add, Nat.reduceAdd]
  repeat' (first | refine gg ?_ | (refine gd ?_ ?_ <;> (intro hcond; try (exfalso; omega))) | (refine gc ?_ ?_ <;> intro hcs) | fail)
  all_goals ((try simp only [decide_eq_true_eq, decide_eq_false_iff_not, beq_iff_eq, beq_eq_false_iff_ne, ne_eq] at *); (try simp only [frz, aresV, Bool.false_eq_true, if_false, if_true]); refine congrArg (fun b => some (AV.bool b)) ?_; rw [Bool.eq_iff_iff]; simp [isLet]; omega)
theorem l1Figure_ok (b : UInt8) : PCall P 88 [.int .u8 b.toNat] (.bool (isFig b)) := by
  refine pcall_of_fcall (fcall_walk T_ok ok_88 rfl ?_)
  unfold Go.Proofs.Try.f88
  simp only [Option.getD_some, envOf, Nat.zero_add, Nat.reduceAdd]
  repeat' (first | refine gg ?_ | (refine gd ?_ ?_ <;> (intro hcond; try (exfalso; omega))) | (refine gc ?_ ?_ <;> intro hcs) | fail)
  all_goals ((try simp only [decide_eq_true_eq, decide_eq_false_iff_not, beq_iff_eq, beq_eq_false_iff_ne, ne_eq] at *); (try simp only [frz, aresV, Bool.false_eq_true, if_false, if_true]); refine congrArg (fun b => some (AV.bool b)) ?_; rw [Bool.eq_iff_iff]; simp [isFig]; omega)
theorem l1In_ok (n lo hi : Int) : PCall P 59 [.int .i64 n, .int .i64 lo, .int .i64 hi] (.bool (decide (lo ≤ n) && decide (n ≤ hi))) := by
  refine pcall_of_fcall (fcall_walk T_ok ok_59 rfl ?_)
  unfold Go.Proofs.Try.f59
  simp only [Option.getD_some, envOf, Nat.zero_add, Nat.reduceAdd]
  repeat' (first | refine gg ?_ | (refine gd ?_ ?_ <;> (intro hcond; try (exfalso; omega))) | (refine gc ?_ ?_ <;> intro hcs) | fail)
  all_goals ((try simp only [decide_eq_true_eq, decide_eq_false_iff_not, beq_iff_eq, beq_eq_false_iff_ne, ne_eq] at *); (try simp only [frz, aresV, Bool.false_eq_true, if_false, if_true]); refine congrArg (fun b => some (AV.bool b)) ?_; rw [Bool.eq_iff_iff]; simp; try omega)
theorem isFigure_ok (b : UInt8) : PCall P 81 [.int .u8 b.toNat] (.bool (isFig b)) := by
  refine pcall_of_fcall (fcall_walk T_ok ok_81 rfl ?_)
  unfold Go.Proofs.Try.f81
  simp only [Option.getD_some, envOf, Nat.zero_add, Nat.reduceAdd]
  repeat' (first | refine gg ?_ | (refine gd ?_ ?_ <;> (intro hcond; try (exfalso; omega))) | (refine gc ?_ ?_ <;> intro hcs) | fail)
  all_goals ((try simp only [decide_eq_true_eq, decide_eq_false_iff_not, beq_iff_eq, beq_eq_false_iff_ne, ne_eq] at *); (try simp only [frz, aresV, Bool.false_eq_true, if_false, if_true]); refine congrArg (fun b => some (AV.bool b)) ?_; rw [Bool.eq_iff_iff]; simp [isFig]; omega)

theorem snoc_all {p : Nat → Prop} {i : Nat} (h : ∀ j, j < i → p j) (hi : p i) : ∀ j, j < i + 1 → p j := fun j hj => by
  rcases Nat.lt_succ_iff_lt_or_eq.1 hj with h1 | rfl
  · exact h j h1
  · exact hi
theorem allr_true {n : Nat} {p : Nat → Bool} (h : ∀ j, j < n → p j = true) : (List.range n).all p = true := by
  rw [List.all_eq_true]
  intro x hx
  exact h x (List.mem_range.1 hx)
theorem allr_false {n i : Nat} {p : Nat → Bool} (hi : i < n) (h : p i = false) : (List.range n).all p = false := by
  rw [List.all_eq_false]
  exact ⟨i, List.mem_range.2 hi, by simp [h]⟩
def idxI {α : Type} (l : List α) (p : α → Bool) : Int := match l.findIdx? p with
  | some i => i
  | none => -1
theorem idxI_found {α : Type} {l : List α} {p : α → Bool} {i : Nat} {d : α} (hi : i < l.length) (h : p (l.getD i d) = true) (hl : ∀ j, j < i → p (l.getD j d) = false) : idxI l p = i := by
  have : l.findIdx? p = some i := by
    rw [List.findIdx?_eq_some_iff_getElem]
    refine ⟨hi, by simpa [List.getD_eq_getElem?_getD, hi] using h, fun j hj => ?_⟩
    have := hl j hj
    simpa [List.getD_eq_getElem?_getD, show j < l.length by omega] using this
  unfold idxI; rw [this]
theorem idxI_none {α : Type} {l : List α} {p : α → Bool} {d : α} (hl : ∀ j, j < l.length → p (l.getD j d) = false) : idxI l p = -1 := by
  have : l.findIdx? p = none := by
    rw [List.findIdx?_eq_none_iff]
    intro x hx
    obtain ⟨j, hj, rfl⟩ := List.getElem_of_mem hx
    have := hl j hj
    simpa [List.getD_eq_getElem?_getD, hj] using this
  unfold idxI; rw [this]
theorem idxI_cases {α : Type} (l : List α) (p : α → Bool) (d : α) : (idxI l p = -1 ∧ ∀ j, j < l.length → p (l.getD j d) = false) ∨ ∃ i : Nat, idxI l p = i ∧ i < l.length ∧ p (l.getD i d) = true ∧ ∀ j, j < i → p (l.getD j d) = false := by
  unfold idxI
  cases h : l.findIdx? p with
  | none =>
    rw [List.findIdx?_eq_none_iff] at h
    refine .inl ⟨rfl, fun j hj => ?_⟩
    have := h l[j] (List.getElem_mem hj)
    simpa [List.getD_eq_getElem?_getD, hj] using this
  | some i =>
    rw [List.findIdx?_eq_some_iff_getElem] at h
    obtain ⟨h1, h2, h3⟩ := h
    refine .inr ⟨i, rfl, h1, by simpa [List.getD_eq_getElem?_getD, h1] using h2, fun j hj => ?_⟩
    have := h3 j hj
    simpa [List.getD_eq_getElem?_getD, show j < l.length by omega] using this

def okc (s : List UInt8) (i : Nat) : Bool := isLet (s.getD i 0) || (i != 0 && isFig (s.getD i 0))
def nameOK (s : List UInt8) : Bool := (List.range s.length).all (okc s) && decide (1 ≤ s.length) && decide (s.length ≤ 12)

theorem nameOK_false {s : List UInt8} {i : Nat} (hi : i < s.length) (h : okc s i = false) : nameOK s = false := by simp [nameOK, allr_false hi h]
theorem isName_false {s : List UInt8} {i : Nat} (hi : i < s.length) (h : (isLet (s.getD i 0) || isFig (s.getD i 0)) = false) : nameOK s = false := nameOK_false hi (by
  simp only [okc, Bool.or_eq_false_iff, Bool.and_eq_false_iff] at h ⊢
  exact ⟨h.1, .inr h.2⟩)
theorem l1Name_ok (s : List UInt8) (hs : Len s) : PCall P 60 [.str s] (.bool (nameOK s)) := by
  refine pcall_of_fcall (fcall_walk T_ok ok_60 rfl ?_)
  unfold Go.Proofs.Try.f60
  simp only [Option.getD_some, envOf, Nat.zero_add, Nat.reduceAdd]
  repeat' (first | refine gg ?_ | (refine gd ?_ ?_ <;> (intro hcond; try (exfalso; omega))) | (refine gc ?_ ?_ <;> intro hcs) | fail)
  refine aw_loopc (fun k env H => ∃ (i : Nat), i ≤ s.length ∧ k = s.length - i ∧ H = [] ∧ (∀ j, j < i → okc s j = true) ∧ env = [(0, .str s), (3, .int .i64 i)]) (s.length) [(0, .str s), (3, .int .i64 0)] [] sb rfl trivial rfl rfl ⟨0, Nat.zero_le _, rfl, rfl, fun j hj => by omega, rfl⟩ ?_
  rintro k env H ⟨i, hi, hk, rfl, hinv, rfl⟩
  have step : okc s i = true → ∀ j, j < i + 1 → okc s j = true := fun h j hj => by
    rcases Nat.lt_succ_iff_lt_or_eq.1 hj with h1 | rfl
    · exact hinv j h1
    · exact h
  by_cases hlt : i < s.length
  · repeat' (first | refine gg ?_ | (refine gd ?_ ?_ <;> (intro hcond; try (exfalso; omega))) | (refine gc ?_ ?_ <;> intro hcs) | fail)
    (apply ar_call rfl ok_87); (focus exact eva); (focus exact l1Letter_ok _); (focus rfl); (focus rfl)
    repeat' (first | refine gg ?_ | (refine gd ?_ ?_ <;> (intro hcond; try (exfalso; omega))) | (refine gc ?_ ?_ <;> intro hcs) | fail)
    · rw [nameOK_false hlt (by simp_all [okc])]; rfl
    · (apply ar_call rfl ok_88); (focus exact eva); (focus exact l1Figure_ok _); (focus rfl); (focus rfl)
      repeat' (first | refine gg ?_ | (refine gd ?_ ?_ <;> (intro hcond; try (exfalso; omega))) | (refine gc ?_ ?_ <;> intro hcs) | fail)
      · rw [nameOK_false hlt (by simp_all [okc])]; rfl
      · exact anext0 [(0, .str s), (3, .int .i64 (i + 1 : Nat))] [] (k' := s.length - (i + 1)) (by omega) sb rfl trivial rfl rfl ⟨i + 1, by omega, rfl, rfl, step (by simp_all [okc]), rfl⟩
    · exact anext0 [(0, .str s), (3, .int .i64 (i + 1 : Nat))] [] (k' := s.length - (i + 1)) (by omega) sb rfl trivial rfl rfl ⟨i + 1, by omega, rfl, rfl, step (by simp_all [okc]), rfl⟩
  · have : i = s.length := by omega
    subst this
    repeat' (first | refine gg ?_ | (refine gd ?_ ?_ <;> (intro hcond; try (exfalso; omega))) | (refine gc ?_ ?_ <;> intro hcs) | fail)
    (apply ar_call rfl ok_59); (focus exact eva); (focus exact l1In_ok _ _ _); (focus rfl); (focus rfl)
    repeat' (first | refine gg ?_ | (refine gd ?_ ?_ <;> (intro hcond; try (exfalso; omega))) | (refine gc ?_ ?_ <;> intro hcs) | fail)
    (try simp only [decide_eq_true_eq, decide_eq_false_iff_not, beq_iff_eq, beq_eq_false_iff_ne, ne_eq] at *); (try simp only [frz, aresV, Bool.false_eq_true, if_false, if_true]); refine congrArg (fun b => some (AV.bool b)) ?_; rw [Bool.eq_iff_iff]
    simp [nameOK, allr_true hinv]
    omega
theorem isWordByte_ok (b : UInt8) : PCall P 82 [.int .u8 b.toNat] (.bool (isLet b || isFig b)) := by
  refine pcall_of_fcall (fcall_walk T_ok ok_82 rfl ?_)
  unfold Go.Proofs.Try.f82
  simp only [Option.getD_some, envOf, Nat.zero_add, Nat.reduceAdd]
  repeat' (first | refine gg ?_ | (refine gd ?_ ?_ <;> (intro hcond; try (exfalso; omega))) | (refine gc ?_ ?_ <;> intro hcs) | fail)
  all_goals try ((apply ar_call rfl ok_81); (focus exact eva); (focus exact isFigure_ok _); (focus rfl); (focus rfl))
  repeat' (first | refine gg ?_ | (refine gd ?_ ?_ <;> (intro hcond; try (exfalso; omega))) | (refine gc ?_ ?_ <;> intro hcs) | fail)
  all_goals ((try simp only [decide_eq_true_eq, decide_eq_false_iff_not, beq_iff_eq, beq_eq_false_iff_ne, ne_eq] at *); (try simp only [frz, aresV, Bool.false_eq_true, if_false, if_true]); refine congrArg (fun b => some (AV.bool b)) ?_; rw [Bool.eq_iff_iff]; simp [isLet, isFig]; try omega)
theorem isName_ok (s : List UInt8) (hs : Len s) : PCall P 54 [.str s] (.bool (nameOK s)) := by
  refine pcall_of_fcall (fcall_walk T_ok ok_54 rfl ?_)
  unfold Go.Proofs.Try.f54
  simp only [Option.getD_some, envOf, Nat.zero_add, Nat.reduceAdd]
  repeat' (first | refine gg ?_ | (refine gd ?_ ?_ <;> (intro hcond; try (exfalso; omega))) | (refine gc ?_ ?_ <;> intro hcs) | fail)
  · rw [show nameOK s = false by simp at *; simp [nameOK]; omega]; rfl
  · rw [show nameOK s = false by simp at *; simp [nameOK]; omega]; rfl
  · have hpos : 0 < s.length := by simp at *; omega
    have h12 : s.length ≤ 12 := by simp at *; omega
    repeat' (first | refine gg ?_ | (refine gd ?_ ?_ <;> (intro hcond; try (exfalso; omega))) | (refine gc ?_ ?_ <;> intro hcs) | fail)
    (apply ar_call rfl ok_81); (focus exact eva); (focus exact isFigure_ok _); (focus rfl); (focus rfl)
    repeat' (first | refine gg ?_ | (refine gd ?_ ?_ <;> (intro hcond; try (exfalso; omega))) | (refine gc ?_ ?_ <;> intro hcs) | fail)
    · have hfig : isFig (s.getD 0 0) = true := hcs
      have hnl : isLet (s.getD 0 0) = false := by simp [isFig, isLet] at hfig ⊢; omega
      rw [nameOK_false hpos (by simp only [okc, hnl, bne_self_eq_false, Bool.false_and, Bool.or_self])]; rfl
    · have hfig : isFig (s.getD 0 0) = false := hcs
      refine aw_loopc (fun k env H => ∃ (i : Nat), i ≤ s.length ∧ k = s.length - i ∧ H = [] ∧ (∀ j, j < i → (isLet (s.getD j 0) || isFig (s.getD j 0)) = true) ∧ env = [(0, .str s), (18, .int .i64 s.length), (19, .int .i64 i)]) (s.length) [(0, .str s), (18, .int .i64 s.length), (19, .int .i64 0)] [] sb rfl trivial rfl rfl ⟨0, Nat.zero_le _, rfl, rfl, fun j hj => by omega, rfl⟩ ?_
      rintro k env H ⟨i, hi, hk, rfl, hinv, rfl⟩
      by_cases hlt : i < s.length
      · repeat' (first | refine gg ?_ | (refine gd ?_ ?_ <;> (intro hcond; try (exfalso; omega))) | (refine gc ?_ ?_ <;> intro hcs) | fail)
        (apply ar_call rfl ok_82); (focus exact eva); (focus exact isWordByte_ok _); (focus rfl); (focus rfl)
        repeat' (first | refine gg ?_ | (refine gd ?_ ?_ <;> (intro hcond; try (exfalso; omega))) | (refine gc ?_ ?_ <;> intro hcs) | fail)
        · rw [isName_false hlt (by simpa using hcs)]; rfl
        · exact anext0 [(0, .str s), (18, .int .i64 s.length), (19, .int .i64 (i + 1 : Nat))] [] (k' := s.length - (i + 1)) (by omega) sb rfl trivial rfl rfl ⟨i + 1, by omega, rfl, rfl, snoc_all hinv (by cases h1 : isLet (s.getD i 0) <;> cases h2 : isFig (s.getD i 0) <;> simp_all), rfl⟩
      · have : i = s.length := by omega
        subst this
        repeat' (first | refine gg ?_ | (refine gd ?_ ?_ <;> (intro hcond; try (exfalso; omega))) | (refine gc ?_ ?_ <;> intro hcs) | fail)
        have : nameOK s = true := by
          simp only [nameOK, Bool.and_eq_true, decide_eq_true_eq]
          refine ⟨⟨allr_true fun j hj => ?_, by omega⟩, h12⟩
          have h9 := hinv j hj
          simp only [okc]
          by_cases h0 : j = 0
          · subst h0
            rw [hfig, Bool.or_false] at h9
            rw [h9]; rfl
          · have : (j != 0) = true := by simpa using h0
            rw [this, Bool.true_and]; exact h9
        rw [this]; rfl
end Go.Av
set_option linter.unusedVariables false
set_option linter.unusedSimpArgs false
namespace Go.Av
open Go
set_option maxRecDepth 10000

def onceC (ns : List (List UInt8)) (i : Nat) : Bool := nameOK (ns.getD i []) && (List.range i).all fun k => ns.getD k [] != ns.getD i []
def once (ns : List (List UInt8)) : Bool := (List.range ns.length).all (onceC ns)
abbrev Lens (ns : List (List UInt8)) : Prop := ∀ s ∈ ns, Len s
theorem Lens.get {ns : List (List UInt8)} (h : Lens ns) (i : Nat) : Len (ns.getD i []) := by
  rcases Nat.lt_or_ge i ns.length with hi | hi
  · exact h _ (mem_getD hi)
  · rw [List.getD_eq_getElem?_getD, List.getElem?_eq_none hi]; simp
theorem strs_takeD (ns : List (List UInt8)) (k : Nat) : (strs ns).take k = strs (ns.take k) := by simp [strs, List.map_take]

theorem l1Once_ok (ns : List (List UInt8)) (hn : Len ns) (hs : Lens ns) : PCall P 90 [.fsl 1 (strs ns)] (.bool (once ns)) := by
  refine pcall_of_fcall (fcall_walk T_ok ok_90 rfl ?_)
  unfold Go.Proofs.Try.f90
  simp only [Option.getD_some, envOf, Nat.zero_add, Nat.reduceAdd]
  (all_goals (have X1 := @strs_get; have X2 := @strs_len; (repeat' (first | refine gg ?_ | (refine gd ?_ ?_ <;> (intro hcond; try (exfalso; omega))) | (refine gc ?_ ?_ <;> intro hcs) | fail)); all_goals try clear X1 X2))
  refine aw_loopc (fun k env H => ∃ (i : Nat), i ≤ ns.length ∧ k = ns.length - i ∧ H = [] ∧ (∀ j, j < i → onceC ns j = true) ∧ env = [(0, .fsl 1 (strs ns)), (3, .int .i64 i)]) (ns.length) [(0, .fsl 1 (strs ns)), (3, .int .i64 0)] [] sb rfl trivial rfl rfl ⟨0, Nat.zero_le _, rfl, rfl, fun j hj => by omega, rfl⟩ ?_
  rintro k env H ⟨i, hi, hk, rfl, hinv, rfl⟩
  by_cases hlt : i < ns.length
  · (all_goals (have X1 := @strs_get; have X2 := @strs_len; (repeat' (first | refine gg ?_ | (refine gd ?_ ?_ <;> (intro hcond; try (exfalso; omega))) | (refine gc ?_ ?_ <;> intro hcs) | fail)); all_goals try clear X1 X2))
    (have X1 := @strs_get; have X2 := @strs_len; ((apply ar_call rfl ok_60); (focus exact eva); (focus exact l1Name_ok _ (hs.get i)); (focus rfl); (focus rfl)); all_goals try clear X1 X2)
    (all_goals (have X1 := @strs_get; have X2 := @strs_len; (repeat' (first | refine gg ?_ | (refine gd ?_ ?_ <;> (intro hcond; try (exfalso; omega))) | (refine gc ?_ ?_ <;> intro hcs) | fail)); all_goals try clear X1 X2))
    · rw [show once ns = false from allr_false hlt (by simp only [onceC]; simp_all)]; rfl
    · have hname : nameOK (ns.getD i []) = true := by simpa using hcs
      refine aw_loopc (fun k env H => ∃ (m : Nat), m ≤ i ∧ k = i - m ∧ H = [] ∧ (∀ j, j < m → (ns.getD j [] != ns.getD i []) = true) ∧ env = [(0, .fsl 1 (strs ns)), (3, .int .i64 i), (4, .int .i64 m)]) i [(0, .fsl 1 (strs ns)), (3, .int .i64 i), (4, .int .i64 0)] [] sb rfl trivial rfl rfl ⟨0, Nat.zero_le _, rfl, rfl, fun j hj => by omega, rfl⟩ ?_
      rintro k2 env2 H2 ⟨m, hm, hk2, rfl, hinv2, rfl⟩
      by_cases hlt2 : m < i
      · (all_goals (have X1 := @strs_get; have X2 := @strs_len; (repeat' (first | refine gg ?_ | (refine gd ?_ ?_ <;> (intro hcond; try (exfalso; omega))) | (refine gc ?_ ?_ <;> intro hcs) | fail)); all_goals try clear X1 X2))
        · rw [show once ns = false from allr_false hlt (by simp only [onceC]; rw [allr_false hlt2 (by simp only [bne, hcs, Bool.not_true])]; simp)]; rfl
        · exact anext0 [(0, .fsl 1 (strs ns)), (3, .int .i64 i), (4, .int .i64 (m + 1 : Nat))] [] (k' := i - (m + 1)) (by omega) sb rfl trivial rfl rfl ⟨m + 1, by omega, rfl, rfl, snoc_all hinv2 (by simp only [bne, hcs, Bool.not_false]), rfl⟩
      · have : m = i := by omega
        subst this
        (all_goals (have X1 := @strs_get; have X2 := @strs_len; (repeat' (first | refine gg ?_ | (refine gd ?_ ?_ <;> (intro hcond; try (exfalso; omega))) | (refine gc ?_ ?_ <;> intro hcs) | fail)); all_goals try clear X1 X2))
        exact anext0 [(0, .fsl 1 (strs ns)), (3, .int .i64 (m + 1 : Nat))] [] (k' := ns.length - (m + 1)) (by omega) sb rfl trivial rfl rfl ⟨m + 1, by omega, rfl, rfl, snoc_all hinv (by simp only [onceC, hname, allr_true hinv2, Bool.and_self]), rfl⟩
  · have : i = ns.length := by omega
    subst this
    (all_goals (have X1 := @strs_get; have X2 := @strs_len; (repeat' (first | refine gg ?_ | (refine gd ?_ ?_ <;> (intro hcond; try (exfalso; omega))) | (refine gc ?_ ?_ <;> intro hcs) | fail)); all_goals try clear X1 X2))
    rw [show once ns = true from allr_true hinv]; rfl
theorem index_ok (ns : List (List UInt8)) (s : List UInt8) (hn : Len ns) : PCall P 84 [.fsl 1 (strs ns), .str s] (.int .i64 (idxI ns (fun x => s == x))) := by
  refine pcall_of_fcall (fcall_walk T_ok ok_84 rfl ?_)
  unfold Go.Proofs.Try.f84
  simp only [Option.getD_some, envOf, Nat.zero_add, Nat.reduceAdd]
  (all_goals (have X1 := @strs_get; have X2 := @strs_len; (repeat' (first | refine gg ?_ | (refine gd ?_ ?_ <;> (intro hcond; try (exfalso; omega))) | (refine gc ?_ ?_ <;> intro hcs) | fail)); all_goals try clear X1 X2))
  refine aw_loopc (fun k env H => ∃ (i : Nat), i ≤ ns.length ∧ k = ns.length - i ∧ H = [] ∧ (∀ j, j < i → (s == ns.getD j []) = false) ∧ env = [(0, .fsl 1 (strs ns)), (1, .str s), (7, .int .i64 ns.length), (8, .int .i64 i)]) (ns.length) [(0, .fsl 1 (strs ns)), (1, .str s), (7, .int .i64 ns.length), (8, .int .i64 0)] [] sb rfl trivial rfl rfl ⟨0, Nat.zero_le _, rfl, rfl, fun j hj => by omega, rfl⟩ ?_
  rintro k env H ⟨i, hi, hk, rfl, hinv, rfl⟩
  by_cases hlt : i < ns.length
  · (all_goals (have X1 := @strs_get; have X2 := @strs_len; (repeat' (first | refine gg ?_ | (refine gd ?_ ?_ <;> (intro hcond; try (exfalso; omega))) | (refine gc ?_ ?_ <;> intro hcs) | fail)); all_goals try clear X1 X2))
    · rw [idxI_found hlt hcs hinv]; rfl
    · exact anext0 [(0, .fsl 1 (strs ns)), (1, .str s), (7, .int .i64 ns.length), (8, .int .i64 (i + 1 : Nat))] [] (k' := ns.length - (i + 1)) (by omega) sb rfl trivial rfl rfl ⟨i + 1, by omega, rfl, rfl, snoc_all hinv hcs, rfl⟩
  · have : i = ns.length := by omega
    subst this
    (all_goals (have X1 := @strs_get; have X2 := @strs_len; (repeat' (first | refine gg ?_ | (refine gd ?_ ?_ <;> (intro hcond; try (exfalso; omega))) | (refine gc ?_ ?_ <;> intro hcs) | fail)); all_goals try clear X1 X2))
    rw [idxI_none hinv]; rfl
theorem contains_ok (ns : List (List UInt8)) (s : List UInt8) (hn : Len ns) : PCall P 105 [.fsl 1 (strs ns), .str s] (.bool (decide (idxI ns (fun x => s == x) ≥ 0))) := by
  refine pcall_of_fcall (fcall_walk T_ok ok_105 rfl ?_)
  unfold Go.Proofs.Try.f105
  simp only [Option.getD_some, envOf, Nat.zero_add, Nat.reduceAdd]
  (all_goals (have X1 := @strs_get; have X2 := @strs_len; (repeat' (first | refine gg ?_ | (refine gd ?_ ?_ <;> (intro hcond; try (exfalso; omega))) | (refine gc ?_ ?_ <;> intro hcs) | fail)); all_goals try clear X1 X2))
  (have X1 := @strs_get; have X2 := @strs_len; ((apply ar_call rfl ok_84); (focus exact eva); (focus exact index_ok ns s hn); (focus rfl); (focus rfl)); all_goals try clear X1 X2)
  (all_goals (have X1 := @strs_get; have X2 := @strs_len; (repeat' (first | refine gg ?_ | (refine gd ?_ ?_ <;> (intro hcond; try (exfalso; omega))) | (refine gc ?_ ?_ <;> intro hcs) | fail)); all_goals try clear X1 X2))
  rfl
theorem placeOf_ok (ns : List (List UInt8)) (s : List UInt8) (hn : Len ns) : PCall P 56 [.fsl 1 (strs ns), .str s] (.int .i64 (idxI ns (fun x => s == x))) := by
  refine pcall_of_fcall (fcall_walk T_ok ok_56 rfl ?_)
  unfold Go.Proofs.Try.f56
  simp only [Option.getD_some, envOf, Nat.zero_add, Nat.reduceAdd]
  (all_goals (have X1 := @strs_get; have X2 := @strs_len; (repeat' (first | refine gg ?_ | (refine gd ?_ ?_ <;> (intro hcond; try (exfalso; omega))) | (refine gc ?_ ?_ <;> intro hcs) | fail)); all_goals try clear X1 X2))
  (have X1 := @strs_get; have X2 := @strs_len; ((apply ar_call rfl ok_84); (focus exact eva); (focus exact index_ok ns s hn); (focus rfl); (focus rfl)); all_goals try clear X1 X2)
  (all_goals (have X1 := @strs_get; have X2 := @strs_len; (repeat' (first | refine gg ?_ | (refine gd ?_ ?_ <;> (intro hcond; try (exfalso; omega))) | (refine gc ?_ ?_ <;> intro hcs) | fail)); all_goals try clear X1 X2))
  rfl
theorem namesOnce_step {ns : List (List UInt8)} {i : Nat} (hname : nameOK (ns.getD i []) = true) (hl : (ns.take i).length = i) (hget : ∀ j, j < i → (ns.take i).getD j [] = ns.getD j []) (hc : ¬ 0 ≤ idxI (ns.take i) (fun x => ns.getD i [] == x)) : onceC ns i = true := by
  simp only [onceC, hname, Bool.true_and]
  refine allr_true fun m hm => ?_
  rcases idxI_cases (ns.take i) (fun x => ns.getD i [] == x) [] with ⟨_, h2⟩ | ⟨m, h1, _⟩
  · have := h2 m (by omega)
    rw [hget m hm] at this
    have h3 : ¬ ns.getD i [] = ns.getD m [] := by simpa using this
    have h4 : ¬ ns.getD m [] = ns.getD i [] := fun e => h3 e.symm
    simpa [bne] using h4
  · rw [h1] at hc; omega
theorem namesOnce_ok (ns : List (List UInt8)) (hn : Len ns) (hs : Lens ns) : PCall P 102 [.fsl 1 (strs ns)] (.bool (once ns)) := by
  refine pcall_of_fcall (fcall_walk T_ok ok_102 rfl ?_)
  unfold Go.Proofs.Try.f102
  simp only [Option.getD_some, envOf, Nat.zero_add, Nat.reduceAdd]
  (all_goals (have X1 := @strs_get; have X2 := @strs_len; have X3 := @strs_takeD; (repeat' (first | refine gg ?_ | (refine gd ?_ ?_ <;> (intro hcond; try (exfalso; omega))) | (refine gc ?_ ?_ <;> intro hcs) | fail)); all_goals try clear X1 X2 X3))
  refine aw_loopc (fun k env H => ∃ (i : Nat), i ≤ ns.length ∧ k = ns.length - i ∧ H = [] ∧ (∀ j, j < i → onceC ns j = true) ∧ env = [(0, .fsl 1 (strs ns)), (5, .fsl 1 (strs ns)), (6, .int .i64 ns.length), (7, .int .i64 i)]) (ns.length) [(0, .fsl 1 (strs ns)), (5, .fsl 1 (strs ns)), (6, .int .i64 ns.length), (7, .int .i64 0)] [] sb rfl trivial rfl rfl ⟨0, Nat.zero_le _, rfl, rfl, fun j hj => by omega, rfl⟩ ?_
  rintro k env H ⟨i, hi, hk, rfl, hinv, rfl⟩
  by_cases hlt : i < ns.length
  · have hget : ∀ j, j < i → (ns.take i).getD j [] = ns.getD j [] := fun j hj => by simp [List.getD_eq_getElem?_getD, hj]
    have hl : (ns.take i).length = i := by rw [List.length_take]; omega
    (all_goals (have X1 := @strs_get; have X2 := @strs_len; have X3 := @strs_takeD; (repeat' (first | refine gg ?_ | (refine gd ?_ ?_ <;> (intro hcond; try (exfalso; omega))) | (refine gc ?_ ?_ <;> intro hcs) | fail)); all_goals try clear X1 X2 X3))
    (have X1 := @strs_get; have X2 := @strs_len; have X3 := @strs_takeD; ((apply ar_call rfl ok_54); (focus exact eva); (focus exact isName_ok _ (hs.get i)); (focus rfl); (focus rfl)); all_goals try clear X1 X2 X3)
    (all_goals (have X1 := @strs_get; have X2 := @strs_len; have X3 := @strs_takeD; (repeat' (first | refine gg ?_ | (refine gd ?_ ?_ <;> (intro hcond; try (exfalso; omega))) | (refine gc ?_ ?_ <;> intro hcs) | fail)); all_goals try clear X1 X2 X3))
    · rw [show once ns = false from allr_false hlt (by simp only [onceC]; simp_all)]; rfl
    · have hname : nameOK (ns.getD i []) = true := by simpa using hcs
      (have X1 := @strs_get; have X2 := @strs_len; have X3 := @strs_takeD; ((apply ar_call rfl ok_105); (focus exact eva); (focus exact contains_ok (ns.take i) _ (by simp only [Len] at hn ⊢; omega)); (focus rfl); (focus rfl)); all_goals try clear X1 X2 X3)
      (all_goals (have X1 := @strs_get; have X2 := @strs_len; have X3 := @strs_takeD; (repeat' (first | refine gg ?_ | (refine gd ?_ ?_ <;> (intro hcond; try (exfalso; omega))) | (refine gc ?_ ?_ <;> intro hcs) | fail)); all_goals try clear X1 X2 X3))
      · rw [show once ns = false from allr_false hlt (by
          simp only [onceC]
          rcases idxI_cases (ns.take i) (fun x => ns.getD i [] == x) [] with ⟨h1, _⟩ | ⟨m, h1, h2, h3, h4⟩
          · rw [h1] at hcond; omega
          · rw [hl] at h2
            rw [hget m h2] at h3
            have h5 : ns.getD i [] = ns.getD m [] := by simpa using h3
            rw [allr_false h2 (by rw [h5]; simp only [bne_self_eq_false])]; simp)]; rfl
      · exact anext0 [(0, .fsl 1 (strs ns)), (5, .fsl 1 (strs ns)), (6, .int .i64 ns.length), (7, .int .i64 (i + 1 : Nat))] [] (k' := ns.length - (i + 1)) (by omega) sb rfl trivial rfl rfl ⟨i + 1, by omega, rfl, rfl, snoc_all hinv (namesOnce_step hname hl hget (by simpa using hcond)), rfl⟩
  · have : i = ns.length := by omega
    subst this
    (all_goals (have X1 := @strs_get; have X2 := @strs_len; have X3 := @strs_takeD; (repeat' (first | refine gg ?_ | (refine gd ?_ ?_ <;> (intro hcond; try (exfalso; omega))) | (refine gc ?_ ?_ <;> intro hcs) | fail)); all_goals try clear X1 X2 X3))
    rw [show once ns = true from allr_true hinv]; rfl
theorem l2Has_ok (ns : List (List UInt8)) (s : List UInt8) (hn : Len ns) : PCall P 101 [.fsl 1 (strs ns), .str s] (.bool (ns.any (· == s))) := by
  refine pcall_of_fcall (fcall_walk T_ok ok_101 rfl ?_)
  unfold Go.Proofs.Try.f101
  simp only [Option.getD_some, envOf, Nat.zero_add, Nat.reduceAdd]
  (all_goals (have X1 := @strs_get; have X2 := @strs_len; have X3 := @strs_takeD; (repeat' (first | refine gg ?_ | (refine gd ?_ ?_ <;> (intro hcond; try (exfalso; omega))) | (refine gc ?_ ?_ <;> intro hcs) | fail)); all_goals try clear X1 X2 X3))
  refine aw_loopc (fun k env H => ∃ (i : Nat), i ≤ ns.length ∧ k = ns.length - i ∧ H = [] ∧ (∀ j, j < i → (ns.getD j [] == s) = false) ∧ env = [(0, .fsl 1 (strs ns)), (1, .str s), (5, .int .i64 i)]) (ns.length) [(0, .fsl 1 (strs ns)), (1, .str s), (5, .int .i64 0)] [] sb rfl trivial rfl rfl ⟨0, Nat.zero_le _, rfl, rfl, fun j hj => by omega, rfl⟩ ?_
  rintro k env H ⟨i, hi, hk, rfl, hinv, rfl⟩
  by_cases hlt : i < ns.length
  · (all_goals (have X1 := @strs_get; have X2 := @strs_len; have X3 := @strs_takeD; (repeat' (first | refine gg ?_ | (refine gd ?_ ?_ <;> (intro hcond; try (exfalso; omega))) | (refine gc ?_ ?_ <;> intro hcs) | fail)); all_goals try clear X1 X2 X3))
    · rw [show ns.any (· == s) = true from List.any_eq_true.2 ⟨_, mem_getD hlt, hcs⟩]; rfl
    · exact anext0 [(0, .fsl 1 (strs ns)), (1, .str s), (5, .int .i64 (i + 1 : Nat))] [] (k' := ns.length - (i + 1)) (by omega) sb rfl trivial rfl rfl ⟨i + 1, by omega, rfl, rfl, snoc_all hinv hcs, rfl⟩
  · have : i = ns.length := by omega
    subst this
    (all_goals (have X1 := @strs_get; have X2 := @strs_len; have X3 := @strs_takeD; (repeat' (first | refine gg ?_ | (refine gd ?_ ?_ <;> (intro hcond; try (exfalso; omega))) | (refine gc ?_ ?_ <;> intro hcs) | fail)); all_goals try clear X1 X2 X3))
    rw [show ns.any (· == s) = false from List.any_eq_false.2 fun x hx => by
      obtain ⟨j, hj, rfl⟩ := List.getElem_of_mem hx
      have := hinv j hj
      simpa [List.getD_eq_getElem?_getD, hj] using this]; rfl
theorem equal_ok (ns : List (List UInt8)) (hn : Len ns) : PCall P 91 [.fsl 1 (strs ns), .fsl 1 (strs ns)] (.bool true) := by
  refine pcall_of_fcall (fcall_walk T_ok ok_91 rfl ?_)
  unfold Go.Proofs.Try.f91
  simp only [Option.getD_some, envOf, Nat.zero_add, Nat.reduceAdd]
  (all_goals (have X1 := @strs_get; have X2 := @strs_len; have X3 := @strs_takeD; (repeat' (first | refine gg ?_ | (refine gd ?_ ?_ <;> (intro hcond; try (exfalso; omega))) | (refine gc ?_ ?_ <;> intro hcs) | fail)); all_goals try clear X1 X2 X3))
  refine aw_loopc (fun k env H => ∃ (i : Nat), i ≤ ns.length ∧ k = ns.length - i ∧ H = [] ∧ (True) ∧ env = [(0, .fsl 1 (strs ns)), (1, .fsl 1 (strs ns)), (12, .int .i64 ns.length), (13, .int .i64 i)]) (ns.length) [(0, .fsl 1 (strs ns)), (1, .fsl 1 (strs ns)), (12, .int .i64 ns.length), (13, .int .i64 0)] [] sb rfl trivial rfl rfl ⟨0, Nat.zero_le _, rfl, rfl, trivial, rfl⟩ ?_
  rintro k env H ⟨i, hi, hk, rfl, hinv, rfl⟩
  by_cases hlt : i < ns.length
  · (all_goals (have X1 := @strs_get; have X2 := @strs_len; have X3 := @strs_takeD; (repeat' (first | refine gg ?_ | (refine gd ?_ ?_ <;> (intro hcond; try (exfalso; omega))) | (refine gc ?_ ?_ <;> intro hcs) | fail)); all_goals try clear X1 X2 X3))
    exact anext0 [(0, .fsl 1 (strs ns)), (1, .fsl 1 (strs ns)), (12, .int .i64 ns.length), (13, .int .i64 (i + 1 : Nat))] [] (k' := ns.length - (i + 1)) (by omega) sb rfl trivial rfl rfl ⟨i + 1, by omega, rfl, rfl, trivial, rfl⟩
  · have : i = ns.length := by omega
    subst this
    (all_goals (have X1 := @strs_get; have X2 := @strs_len; have X3 := @strs_takeD; (repeat' (first | refine gg ?_ | (refine gd ?_ ?_ <;> (intro hcond; try (exfalso; omega))) | (refine gc ?_ ?_ <;> intro hcs) | fail)); all_goals try clear X1 X2 X3))
    rfl
end Go.Av
set_option linter.unusedVariables false
set_option linter.unusedSimpArgs false
namespace Go.Av
open Go
set_option maxRecDepth 10000

set_option maxHeartbeats 4000000
def plainV : GV → Bool
  | ⟨k, n, t, l, ns⟩ =>
    if k == 0 then n == 0 && t == [] && ((l.length : Int) + ns.length == 0)
    else if k == 1 then (decide (0 ≤ n) && decide (n ≤ 1)) && t == [] && ((l.length : Int) + ns.length == 0)
    else if k == 2 then (decide (-2147483647 ≤ n) && decide (n ≤ 2147483647)) && t == [] && ((l.length : Int) + ns.length == 0)
    else if k == 3 then n == 0 && decide ((t.length : Int) ≤ 40) && ((l.length : Int) + ns.length == 0)
    else if k == 4 then n == 0 && t == [] && ((ns.length : Int) == 0) && decide ((l.length : Int) ≤ 12)
    else if k == 5 then n == 0 && t == [] && ((ns.length : Int) == l.length) && decide ((l.length : Int) ≤ 12)
    else if k == 6 || k == 7 then n == 0 && nameOK t && ((l.length : Int) + ns.length == 0)
    else false

theorem l1Plain_ok (v : GV) (hf : v.fits) : PCall P 89 [.agg v.enc] (.bool (plainV v)) := by
  obtain ⟨k, n, t, l, ns⟩ := v
  obtain ⟨f1, f2, f3, f4, f5, f6, f7⟩ := hf
  refine pcall_of_fcall (fcall_walk T_ok ok_89 rfl ?_)
  unfold Go.Proofs.Try.f89
  simp only [Option.getD_some, envOf, Nat.zero_add, Nat.reduceAdd, GV.enc]
  (all_goals (have X1 := @encs_len; have X2 := @strs_len; (repeat' (first | refine gg ?_ | (refine gd ?_ ?_ <;> (intro hcond; try (exfalso; omega))) | (refine gc ?_ ?_ <;> intro hcs) | fail)); all_goals try clear X1 X2))
  all_goals try (have X1 := @encs_len; have X2 := @strs_len; ((apply ar_call rfl ok_59); (focus exact eva); (focus exact l1In_ok _ _ _); (focus rfl); (focus rfl)); all_goals try clear X1 X2)
  (all_goals (have X1 := @encs_len; have X2 := @strs_len; (repeat' (first | refine gg ?_ | (refine gd ?_ ?_ <;> (intro hcond; try (exfalso; omega))) | (refine gc ?_ ?_ <;> intro hcs) | fail)); all_goals try clear X1 X2))
  all_goals try (have X1 := @encs_len; have X2 := @strs_len; ((apply ar_call rfl ok_60); (focus exact eva); (focus exact l1Name_ok _ f3); (focus rfl); (focus rfl)); all_goals try clear X1 X2)
  (all_goals (have X1 := @encs_len; have X2 := @strs_len; (repeat' (first | refine gg ?_ | (refine gd ?_ ?_ <;> (intro hcond; try (exfalso; omega))) | (refine gc ?_ ?_ <;> intro hcs) | fail)); all_goals try clear X1 X2))
  all_goals (simp only [frz, aresV, Bool.false_eq_true, if_false, if_true]; refine congrArg (fun b => some (AV.bool b)) ?_)
  all_goals simp_all [plainV]
  all_goals (intros; omega)
end Go.Av
set_option linter.unusedVariables false
set_option linter.unusedSimpArgs false
namespace Go.Av
open Go
set_option maxRecDepth 10000
set_option maxHeartbeats 1000000
def GV.k : GV → Int | ⟨k, _, _, _, _⟩ => k
def GV.n : GV → Int | ⟨_, n, _, _, _⟩ => n
def GV.t : GV → List UInt8 | ⟨_, _, t, _, _⟩ => t
def GV.l : GV → List GV | ⟨_, _, _, l, _⟩ => l
def GV.ns : GV → List (List UInt8) | ⟨_, _, _, _, ns⟩ => ns
/-- a value is ok, down to a depth -/
def okV (words : Bool) : Nat → GV → Bool
  | 0, _ => false
  | d + 1, v => plainV v && (words || decide (v.k ≤ 5)) && once v.ns && (List.range v.l.length).all fun i => okV words d (v.l.getD i default)

theorem okV_succ (words : Bool) (d : Nat) (k n : Int) (t : List UInt8) (l : List GV) (ns : List (List UInt8)) : okV words (d + 1) ⟨k, n, t, l, ns⟩ = (plainV ⟨k, n, t, l, ns⟩ && (words || decide (k ≤ 5)) && once ns && (List.range l.length).all fun i => okV words d (l.getD i default)) := rfl
theorem l1Ok_ok (words : Bool) : ∀ (d : Nat) (v : GV), d ≤ 1000 → v.fits → PCall P 61 [.agg v.enc, .int .i64 d, .bool words] (.bool (okV words d v))
  | 0, ⟨k, n, t, l, ns⟩, hd, hf => by
    obtain ⟨f1, f2, f3, f4, f5, f6, f7⟩ := hf
    refine pcall_of_fcall (fcall_walk T_ok ok_61 rfl ?_)
    unfold Go.Proofs.Try.f61
    simp only [Option.getD_some, envOf, Nat.zero_add, Nat.reduceAdd, GV.enc]
    (all_goals (have X1 := @encs_len; have X2 := @strs_len; have X3 := @encs_get; have X4 := @enc_len; have X5 := @enc_take; have X6 := @enc_frz; have X7 := @enc_all; (repeat' (first | refine gg ?_ | (refine gd ?_ ?_ <;> (intro hcond; try (exfalso; omega))) | (refine gc ?_ ?_ <;> intro hcs) | fail)); all_goals try clear X1 X2 X3 X4 X5 X6 X7))
    all_goals rfl
  | d + 1, ⟨k, n, t, l, ns⟩, hd, hf => by
    have hf0 := hf
    obtain ⟨f1, f2, f3, f4, f5, f6, f7⟩ := hf
    refine pcall_of_fcall (fcall_walk T_ok ok_61 rfl ?_)
    unfold Go.Proofs.Try.f61
    simp only [Option.getD_some, envOf, Nat.zero_add, Nat.reduceAdd]
    have hdm : ((d + 1 : Nat) : Int) - 1 = (d : Int) := by omega
    have hd1 : decide (((d + 1 : Nat) : Int) < 1) = false := by simp; omega
    (all_goals (have X1 := @GV.enc.eq_1; have X2 := @encs_len; have X3 := @strs_len; have X4 := @encs_get; have X5 := @enc_len; have X6 := @enc_take; have X7 := @enc_frz; have X8 := @enc_all; have X9 := @hd1; have X10 := @hdm; (repeat' (first | refine gg ?_ | (refine gd ?_ ?_ <;> (intro hcond; try (exfalso; omega))) | (refine gc ?_ ?_ <;> intro hcs) | fail)); all_goals try clear X1 X2 X3 X4 X5 X6 X7 X8 X9 X10))
    (have X1 := @GV.enc.eq_1; have X2 := @encs_len; have X3 := @strs_len; have X4 := @encs_get; have X5 := @enc_len; have X6 := @enc_take; have X7 := @enc_frz; have X8 := @enc_all; have X9 := @hd1; have X10 := @hdm; ((apply ar_call rfl ok_89); (focus exact eva); (focus exact l1Plain_ok ⟨k, n, t, l, ns⟩ hf0); (focus rfl); (focus rfl)); all_goals try clear X1 X2 X3 X4 X5 X6 X7 X8 X9 X10)
    (all_goals (have X1 := @GV.enc.eq_1; have X2 := @encs_len; have X3 := @strs_len; have X4 := @encs_get; have X5 := @enc_len; have X6 := @enc_take; have X7 := @enc_frz; have X8 := @enc_all; have X9 := @hd1; have X10 := @hdm; (repeat' (first | refine gg ?_ | (refine gd ?_ ?_ <;> (intro hcond; try (exfalso; omega))) | (refine gc ?_ ?_ <;> intro hcs) | fail)); all_goals try clear X1 X2 X3 X4 X5 X6 X7 X8 X9 X10))
    all_goals try (have X1 := @GV.enc.eq_1; have X2 := @encs_len; have X3 := @strs_len; have X4 := @encs_get; have X5 := @enc_len; have X6 := @enc_take; have X7 := @enc_frz; have X8 := @enc_all; have X9 := @hd1; have X10 := @hdm; ((apply ar_call rfl ok_90); (focus exact eva); (focus exact l1Once_ok ns f6 f7); (focus rfl); (focus rfl)); all_goals try clear X1 X2 X3 X4 X5 X6 X7 X8 X9 X10)
    (all_goals (have X1 := @GV.enc.eq_1; have X2 := @encs_len; have X3 := @strs_len; have X4 := @encs_get; have X5 := @enc_len; have X6 := @enc_take; have X7 := @enc_frz; have X8 := @enc_all; have X9 := @hd1; have X10 := @hdm; (repeat' (first | refine gg ?_ | (refine gd ?_ ?_ <;> (intro hcond; try (exfalso; omega))) | (refine gc ?_ ?_ <;> intro hcs) | fail)); all_goals try clear X1 X2 X3 X4 X5 X6 X7 X8 X9 X10))
    all_goals first
      | (rw [show okV words (d + 1) ⟨k, n, t, l, ns⟩ = false by rw [okV_succ]; simp_all; try (intros; omega)]; rfl)
      | skip
    all_goals
      have hpre : (plainV ⟨k, n, t, l, ns⟩ && (words || decide (k ≤ 5)) && once ns) = true := by
        simp_all
      refine aw_loopc (fun k' env H => ∃ (i : Nat), i ≤ l.length ∧ k' = l.length - i ∧ H = [.row 5 [(GV.mk k n t l ns).enc]] ∧ (∀ j, j < i → okV words d (l.getD j default) = true) ∧ env = [(1, .int .i64 (d + 1 : Nat)), (2, .bool words), (3, .ptr 0 0 0), (7, .int .i64 i)]) l.length [(1, .int .i64 (d + 1 : Nat)), (2, .bool words), (3, .ptr 0 0 0), (7, .int .i64 0)] [.row 5 [(GV.mk k n t l ns).enc]] sb rfl (heapW_refl _) rfl rfl ⟨0, Nat.zero_le _, rfl, rfl, fun j hj => by omega, rfl⟩ ?_
      rintro k' env H ⟨i, hi, hk, rfl, hinv, rfl⟩
      by_cases hlt : i < l.length
      · (all_goals (have X1 := @GV.enc.eq_1; have X2 := @encs_len; have X3 := @strs_len; have X4 := @encs_get; have X5 := @enc_len; have X6 := @enc_take; have X7 := @enc_frz; have X8 := @enc_all; have X9 := @hd1; have X10 := @hdm; (repeat' (first | refine gg ?_ | (refine gd ?_ ?_ <;> (intro hcond; try (exfalso; omega))) | (refine gc ?_ ?_ <;> intro hcs) | fail)); all_goals try clear X1 X2 X3 X4 X5 X6 X7 X8 X9 X10))
        (have X1 := @GV.enc.eq_1; have X2 := @encs_len; have X3 := @strs_len; have X4 := @encs_get; have X5 := @enc_len; have X6 := @enc_take; have X7 := @enc_frz; have X8 := @enc_all; have X9 := @hd1; have X10 := @hdm; ((apply ar_call rfl ok_61); (focus exact eva); (focus exact l1Ok_ok words d _ (by omega) (fitss_mem f5 _ (mem_getD hlt))); (focus rfl); (focus rfl)); all_goals try clear X1 X2 X3 X4 X5 X6 X7 X8 X9 X10)
        (all_goals (have X1 := @GV.enc.eq_1; have X2 := @encs_len; have X3 := @strs_len; have X4 := @encs_get; have X5 := @enc_len; have X6 := @enc_take; have X7 := @enc_frz; have X8 := @enc_all; have X9 := @hd1; have X10 := @hdm; (repeat' (first | refine gg ?_ | (refine gd ?_ ?_ <;> (intro hcond; try (exfalso; omega))) | (refine gc ?_ ?_ <;> intro hcs) | fail)); all_goals try clear X1 X2 X3 X4 X5 X6 X7 X8 X9 X10))
        · rw [show okV words (d + 1) ⟨k, n, t, l, ns⟩ = false by rw [okV_succ, allr_false hlt (by simpa using hcs)]; simp]; rfl
        · exact anext0 [(1, .int .i64 (d + 1 : Nat)), (2, .bool words), (3, .ptr 0 0 0), (7, .int .i64 (i + 1 : Nat))] [.row 5 [(GV.mk k n t l ns).enc]] (k' := l.length - (i + 1)) (by omega) sb rfl (heapW_refl _) rfl rfl ⟨i + 1, by omega, rfl, rfl, snoc_all hinv (by simpa using hcs), rfl⟩
      · have : i = l.length := by omega
        subst this
        (all_goals (have X1 := @GV.enc.eq_1; have X2 := @encs_len; have X3 := @strs_len; have X4 := @encs_get; have X5 := @enc_len; have X6 := @enc_take; have X7 := @enc_frz; have X8 := @enc_all; have X9 := @hd1; have X10 := @hdm; (repeat' (first | refine gg ?_ | (refine gd ?_ ?_ <;> (intro hcond; try (exfalso; omega))) | (refine gc ?_ ?_ <;> intro hcs) | fail)); all_goals try clear X1 X2 X3 X4 X5 X6 X7 X8 X9 X10))
        rw [show okV words (d + 1) ⟨k, n, t, l, ns⟩ = true by rw [okV_succ, allr_true hinv, Bool.and_true]; exact hpre]; rfl
theorem specValueOk_ok (v : GV) (hf : v.fits) : PCall P 108 [.agg v.enc] (.bool (okV false 6 v)) := by
  obtain ⟨k, n, t, l, ns⟩ := v
  refine pcall_of_fcall (fcall_walk T_ok ok_108 rfl ?_)
  unfold Go.Proofs.Try.f108
  simp only [Option.getD_some, envOf, Nat.zero_add, Nat.reduceAdd, GV.enc]
  repeat' (first | refine gg ?_ | (refine gd ?_ ?_ <;> (intro hcond; try (exfalso; omega))) | (refine gc ?_ ?_ <;> intro hcs) | fail)
  (apply ar_call rfl ok_61); (focus exact eva); (focus exact l1Ok_ok false 6 ⟨k, n, t, l, ns⟩ (by omega) hf); (focus rfl); (focus rfl)
  repeat' (first | refine gg ?_ | (refine gd ?_ ?_ <;> (intro hcond; try (exfalso; omega))) | (refine gc ?_ ?_ <;> intro hcs) | fail)
  rfl
end Go.Av
set_option linter.unusedVariables false
set_option linter.unusedSimpArgs false
namespace Go.Av
open Go
set_option maxRecDepth 10000
set_option maxHeartbeats 1000000
def okNd (n : GN) : Bool := decide (0 ≤ n.id) && decide (n.id ≤ 2147483647) && nameOK n.ty && (n.cells.k == 5) && okV false 4 n.cells
def nodeC (l : List GN) (i : Nat) : Bool := okNd (l.getD i default) && (i == 0 || decide ((l.getD (i - 1) default).id < (l.getD i default).id))
def queryB : List UInt8 := [81, 117, 101, 114, 121]
def storeOK (l : List GN) : Bool := (List.range l.length).all (nodeC l) && (decide (1 ≤ (l.length : Int)) && decide ((l.length : Int) ≤ 12)) && (l.getD 0 default).id == 0 && (l.getD 0 default).ty == queryB

theorem specStoreOk_ok (l : List GN) (hl : Len l) (hf : ∀ v ∈ l, v.fits) : PCall P 24 [.fsl 7 (encn l)] (.bool (storeOK l)) := by
  refine pcall_of_fcall (fcall_walk T_ok ok_24 rfl ?_)
  unfold Go.Proofs.Try.f24
  simp only [Option.getD_some, envOf, Nat.zero_add, Nat.reduceAdd]
  (all_goals (have X1 := @encn_get; have X2 := @encn_len; have X3 := @nenc_len; have X4 := @nenc_take; have X5 := @nenc_frz; (repeat' (first | refine gg ?_ | (refine gd ?_ ?_ <;> (intro hcond; try (exfalso; omega))) | (refine gc ?_ ?_ <;> intro hcs) | fail)); all_goals try clear X1 X2 X3 X4 X5))
  refine aw_loopc (fun k env H => ∃ (i : Nat), i ≤ l.length ∧ k = l.length - i ∧ H = [] ∧ (∀ j, j < i → nodeC l j = true) ∧ env = [(0, .fsl 7 (encn l)), (3, .int .i64 i)]) (l.length) [(0, .fsl 7 (encn l)), (3, .int .i64 0)] [] sb rfl trivial rfl rfl ⟨0, Nat.zero_le _, rfl, rfl, fun j hj => by omega, rfl⟩ ?_
  rintro k env H ⟨i, hi, hk, rfl, hinv, rfl⟩
  by_cases hlt : i < l.length
  · obtain ⟨u, hu⟩ : ∃ u, l.getD i default = u := ⟨_, rfl⟩
    have hfu : u.fits := hu ▸ hf _ (mem_getD hlt)
    obtain ⟨id, ty, ⟨ck, cn, ct, cl, cns⟩⟩ := u
    obtain ⟨g1, g2, g3⟩ := hfu
    have hti : ((i : Int) - 1).toNat = i - 1 := by omega
    have hn : nodeC l i = ((decide (0 ≤ id) && decide (id ≤ 2147483647) && nameOK ty && (ck == 5) && okV false 4 ⟨ck, cn, ct, cl, cns⟩) && (i == 0 || decide ((l.getD (i - 1) default).id < id))) := by
      unfold nodeC okNd; rw [hu]; rfl
    (all_goals (have X1 := @encn_get; have X2 := @encn_len; have X3 := @hu; have X4 := @GN.enc.eq_1; have X5 := @GV.enc.eq_1; have X6 := @hti; (repeat' (first | refine gg ?_ | (refine gd ?_ ?_ <;> (intro hcond; try (exfalso; omega))) | (refine gc ?_ ?_ <;> intro hcs) | fail)); all_goals try clear X1 X2 X3 X4 X5 X6))
    (have X1 := @encn_get; have X2 := @encn_len; have X3 := @hu; have X4 := @GN.enc.eq_1; have X5 := @GV.enc.eq_1; have X6 := @hti; ((apply ard_call rfl ok_59); (focus exact eva); (focus exact l1In_ok _ _ _); (focus rfl); (focus rfl)); all_goals try clear X1 X2 X3 X4 X5 X6)
    (all_goals (have X1 := @encn_get; have X2 := @encn_len; have X3 := @hu; have X4 := @GN.enc.eq_1; have X5 := @GV.enc.eq_1; have X6 := @hti; (repeat' (first | refine gg ?_ | (refine gd ?_ ?_ <;> (intro hcond; try (exfalso; omega))) | (refine gc ?_ ?_ <;> intro hcs) | fail)); all_goals try clear X1 X2 X3 X4 X5 X6))
    all_goals try (have X1 := @encn_get; have X2 := @encn_len; have X3 := @hu; have X4 := @GN.enc.eq_1; have X5 := @GV.enc.eq_1; have X6 := @hti; ((apply ard_call rfl ok_60); (focus exact eva); (focus exact l1Name_ok _ g2); (focus rfl); (focus rfl)); all_goals try clear X1 X2 X3 X4 X5 X6)
    (all_goals (have X1 := @encn_get; have X2 := @encn_len; have X3 := @hu; have X4 := @GN.enc.eq_1; have X5 := @GV.enc.eq_1; have X6 := @hti; (repeat' (first | refine gg ?_ | (refine gd ?_ ?_ <;> (intro hcond; try (exfalso; omega))) | (refine gc ?_ ?_ <;> intro hcs) | fail)); all_goals try clear X1 X2 X3 X4 X5 X6))
    all_goals try (have X1 := @encn_get; have X2 := @encn_len; have X3 := @hu; have X4 := @GN.enc.eq_1; have X5 := @GV.enc.eq_1; have X6 := @hti; ((apply ard_call rfl ok_61); (focus exact eva); (focus exact l1Ok_ok false 4 ⟨ck, cn, ct, cl, cns⟩ (by omega) g3); (focus rfl); (focus rfl)); all_goals try clear X1 X2 X3 X4 X5 X6)
    (all_goals (have X1 := @encn_get; have X2 := @encn_len; have X3 := @hu; have X4 := @GN.enc.eq_1; have X5 := @GV.enc.eq_1; have X6 := @hti; (repeat' (first | refine gg ?_ | (refine gd ?_ ?_ <;> (intro hcond; try (exfalso; omega))) | (refine gc ?_ ?_ <;> intro hcs) | fail)); all_goals try clear X1 X2 X3 X4 X5 X6))
    all_goals first
      | (rw [show storeOK l = false by
          unfold storeOK
          rw [allr_false hlt (by rw [hn]; simp_all; try omega)]; simp]; rfl)
      | (exact anext0 [(0, .fsl 7 (encn l)), (3, .int .i64 (i + 1 : Nat))] [] (k' := l.length - (i + 1)) (by omega) sb rfl trivial rfl rfl ⟨i + 1, by omega, rfl, rfl, snoc_all hinv (by rw [hn]; simp_all; try omega), rfl⟩)
  · have : i = l.length := by omega
    subst this
    (all_goals (have X1 := @encn_get; have X2 := @encn_len; have X3 := @GN.enc.eq_1; (repeat' (first | refine gg ?_ | (refine gd ?_ ?_ <;> (intro hcond; try (exfalso; omega))) | (refine gc ?_ ?_ <;> intro hcs) | fail)); all_goals try clear X1 X2 X3))
    (have X1 := @encn_get; have X2 := @encn_len; have X3 := @GN.enc.eq_1; ((apply ar_call rfl ok_59); (focus exact eva); (focus exact l1In_ok _ _ _); (focus rfl); (focus rfl)); all_goals try clear X1 X2 X3)
    (all_goals (have X1 := @encn_get; have X2 := @encn_len; have X3 := @GN.enc.eq_1; (repeat' (first | refine gg ?_ | (refine gd ?_ ?_ <;> (intro hcond; try (exfalso; omega))) | (refine gc ?_ ?_ <;> intro hcs) | fail)); all_goals try clear X1 X2 X3))
    · have hpos : 0 < l.length := by simp at hcs; omega
      (all_goals (have X1 := @encn_get; have X2 := @encn_len; have X3 := @GN.enc.eq_1; have X4 := @Int.toNat_zero; (repeat' (first | refine gg ?_ | (refine gd ?_ ?_ <;> (intro hcond; try (exfalso; omega))) | (refine gc ?_ ?_ <;> intro hcs) | fail)); all_goals try clear X1 X2 X3 X4))
      all_goals (simp only [frz, aresV, Bool.false_eq_true, if_false, if_true]; refine congrArg (fun b => some (AV.bool b)) ?_; unfold storeOK; rw [allr_true hinv]; simp_all [queryB])
    · simp only [frz, aresV, Bool.false_eq_true, if_false, if_true]
      refine congrArg (fun b => some (AV.bool b)) ?_
      unfold storeOK; rw [hcs]; simp
end Go.Av
set_option linter.unusedVariables false
set_option linter.unusedSimpArgs false
namespace Go.Av
open Go
set_option maxRecDepth 10000
set_option maxHeartbeats 4000000
def topI : GV → Bool
  | ⟨k, n, t, l, ns⟩ => plainV ⟨k, n, t, l, ns⟩ && (k != 5 || once ns)
def itemT : GV → AV
  | ⟨k, n, t, l, ns⟩ =>
    if k = 0 then .iface 146 (.agg [])
    else if k = 1 then .iface 147 (.bool (n == 1))
    else if k = 2 then .iface 148 (.int .i64 n)
    else if k = 3 then .iface 149 (.str t)
    else if k = 4 then .iface 150 (.fsl 5 (encs l))
    else if k = 5 then .iface 152 (.agg [.fsl 1 (strs ns), .fsl 5 (encs l)])
    else if k = 6 then .iface 131 (.str t)
    else .iface 132 (.str t)
def itemAV (v : GV) : AV := if topI v = true then itemT v else .nilif

theorem itemOf_ok (v : GV) (hf : v.fits) : PCall P 83 [.agg v.enc] (itemAV v) := by
  obtain ⟨k, n, t, l, ns⟩ := v
  obtain ⟨f1, f2, f3, f4, f5, f6, f7⟩ := hf
  have hsum : ((l.length : Int) + ns.length = 0) ↔ (l = [] ∧ ns = []) := by
    constructor
    · intro h
      exact ⟨List.eq_nil_of_length_eq_zero (by omega), List.eq_nil_of_length_eq_zero (by omega)⟩
    · rintro ⟨rfl, rfl⟩; rfl
  refine pcall_of_fcall (fcall_walk T_ok ok_83 rfl ?_)
  unfold Go.Proofs.Try.f83
  simp only [Option.getD_some, envOf, Nat.zero_add, Nat.reduceAdd]
  (all_goals (have X1 := @GV.enc.eq_1; have X2 := @encs_len; have X3 := @strs_len; (repeat' (first | refine gg ?_ | (refine gd ?_ ?_ <;> (intro hcond; try (exfalso; omega))) | (refine gc ?_ ?_ <;> intro hcs) | fail)); all_goals try clear X1 X2 X3))
  all_goals try (have X1 := @GV.enc.eq_1; have X2 := @encs_len; have X3 := @strs_len; ((apply ar_call rfl ok_54); (focus exact eva); (focus exact isName_ok t f3); (focus rfl); (focus rfl)); all_goals try clear X1 X2 X3)
  all_goals try (have X1 := @GV.enc.eq_1; have X2 := @encs_len; have X3 := @strs_len; ((apply ar_call rfl ok_102); (focus exact eva); (focus exact namesOnce_ok ns f6 f7); (focus rfl); (focus rfl)); all_goals try clear X1 X2 X3)
  (all_goals (have X1 := @GV.enc.eq_1; have X2 := @encs_len; have X3 := @strs_len; (repeat' (first | refine gg ?_ | (refine gd ?_ ?_ <;> (intro hcond; try (exfalso; omega))) | (refine gc ?_ ?_ <;> intro hcs) | fail)); all_goals try clear X1 X2 X3))
  all_goals first
    | (show some AV.nilif = some (itemAV ⟨k, n, t, l, ns⟩); refine congrArg some ?_; unfold itemAV; rw [if_neg]; simp_all [topI, plainV]; done)
    | (show some AV.nilif = some (itemAV ⟨k, n, t, l, ns⟩); refine congrArg some ?_; unfold itemAV; rw [if_neg]; simp_all [topI, plainV]; intros; omega)
    | (rw [show itemAV ⟨k, n, t, l, ns⟩ = itemT ⟨k, n, t, l, ns⟩ by unfold itemAV; rw [if_pos (by simp_all [topI, plainV])]]; simp_all [itemT, frz, frzL, aresV]; done)
    | skip
  trace_state
end Go.Av
set_option linter.unusedVariables false
set_option linter.unusedSimpArgs false
namespace Go.Av
open Go
set_option maxRecDepth 10000
set_option maxHeartbeats 1000000
theorem within130 (t : List UInt8) : PCall P 130 [.str t] (.fsl 5 []) := by
  refine pcall_of_fcall (fcall_walk T_ok ok_130 rfl ?_)
  unfold Go.Proofs.Try.f130
  simp only [Option.getD_some, envOf, Nat.zero_add, Nat.reduceAdd]
  repeat' (first | refine gg ?_ | (refine gd ?_ ?_ <;> (intro hcond; try (exfalso; omega))) | (refine gc ?_ ?_ <;> intro hcs) | fail)
  rfl
theorem within131 (t : List UInt8) : PCall P 131 [.str t] (.fsl 5 []) := by
  refine pcall_of_fcall (fcall_walk T_ok ok_131 rfl ?_)
  unfold Go.Proofs.Try.f131
  simp only [Option.getD_some, envOf, Nat.zero_add, Nat.reduceAdd]
  repeat' (first | refine gg ?_ | (refine gd ?_ ?_ <;> (intro hcond; try (exfalso; omega))) | (refine gc ?_ ?_ <;> intro hcs) | fail)
  rfl
theorem within132 : PCall P 132 [.agg []] (.fsl 5 []) := by
  refine pcall_of_fcall (fcall_walk T_ok ok_132 rfl ?_)
  unfold Go.Proofs.Try.f132
  simp only [Option.getD_some, envOf, Nat.zero_add, Nat.reduceAdd]
  repeat' (first | refine gg ?_ | (refine gd ?_ ?_ <;> (intro hcond; try (exfalso; omega))) | (refine gc ?_ ?_ <;> intro hcs) | fail)
  rfl
theorem within133 (b : Bool) : PCall P 133 [.bool b] (.fsl 5 []) := by
  refine pcall_of_fcall (fcall_walk T_ok ok_133 rfl ?_)
  unfold Go.Proofs.Try.f133
  simp only [Option.getD_some, envOf, Nat.zero_add, Nat.reduceAdd]
  repeat' (first | refine gg ?_ | (refine gd ?_ ?_ <;> (intro hcond; try (exfalso; omega))) | (refine gc ?_ ?_ <;> intro hcs) | fail)
  rfl
theorem within134 (n : Int) : PCall P 134 [.int .i64 n] (.fsl 5 []) := by
  refine pcall_of_fcall (fcall_walk T_ok ok_134 rfl ?_)
  unfold Go.Proofs.Try.f134
  simp only [Option.getD_some, envOf, Nat.zero_add, Nat.reduceAdd]
  repeat' (first | refine gg ?_ | (refine gd ?_ ?_ <;> (intro hcond; try (exfalso; omega))) | (refine gc ?_ ?_ <;> intro hcs) | fail)
  rfl
theorem within135 (t : List UInt8) : PCall P 135 [.str t] (.fsl 5 []) := by
  refine pcall_of_fcall (fcall_walk T_ok ok_135 rfl ?_)
  unfold Go.Proofs.Try.f135
  simp only [Option.getD_some, envOf, Nat.zero_add, Nat.reduceAdd]
  repeat' (first | refine gg ?_ | (refine gd ?_ ?_ <;> (intro hcond; try (exfalso; omega))) | (refine gc ?_ ?_ <;> intro hcs) | fail)
  rfl
theorem within136 (l : List GV) : PCall P 136 [.fsl 5 (encs l)] (.fsl 5 (encs l)) := by
  refine pcall_of_fcall (fcall_walk T_ok ok_136 rfl ?_)
  unfold Go.Proofs.Try.f136
  simp only [Option.getD_some, envOf, Nat.zero_add, Nat.reduceAdd]
  repeat' (first | refine gg ?_ | (refine gd ?_ ?_ <;> (intro hcond; try (exfalso; omega))) | (refine gc ?_ ?_ <;> intro hcs) | fail)
  rfl
theorem within137 (l : List GV) (ns : List (List UInt8)) : PCall P 137 [.agg [.fsl 1 (strs ns), .fsl 5 (encs l)]] (.fsl 5 (encs l)) := by
  refine pcall_of_fcall (fcall_walk T_ok ok_137 rfl ?_)
  unfold Go.Proofs.Try.f137
  simp only [Option.getD_some, envOf, Nat.zero_add, Nat.reduceAdd]
  repeat' (first | refine gg ?_ | (refine gd ?_ ?_ <;> (intro hcond; try (exfalso; omega))) | (refine gc ?_ ?_ <;> intro hcs) | fail)
  rfl
theorem methAll : methB P 131 "loop.example/pergola/impl.within" 130 = true ∧ methB P 132 "loop.example/pergola/impl.within" 131 = true ∧ methB P 146 "loop.example/pergola/impl.within" 132 = true ∧ methB P 147 "loop.example/pergola/impl.within" 133 = true ∧
    methB P 148 "loop.example/pergola/impl.within" 134 = true ∧ methB P 149 "loop.example/pergola/impl.within" 135 = true ∧ methB P 150 "loop.example/pergola/impl.within" 136 = true ∧ methB P 152 "loop.example/pergola/impl.within" 137 = true :=
  ⟨by kernel_rfl, by kernel_rfl, by kernel_rfl, by kernel_rfl, by kernel_rfl, by kernel_rfl, by kernel_rfl, by kernel_rfl⟩
end Go.Av
set_option linter.unusedVariables false
set_option linter.unusedSimpArgs false
namespace Go.Av
open Go
set_option maxRecDepth 10000
set_option maxHeartbeats 1000000
theorem okV_top (d : Nat) (k n : Int) (t : List UInt8) (l : List GV) (ns : List (List UInt8)) (h : topI ⟨k, n, t, l, ns⟩ = false) : okV false (d + 1) ⟨k, n, t, l, ns⟩ = false := by
  rw [okV_succ]
  simp only [topI, Bool.and_eq_false_iff, Bool.or_eq_false_iff] at h
  rcases h with h | ⟨h1, h2⟩
  · rw [h]; simp
  · rw [h2]; simp

theorem plain_nil {k n : Int} {t : List UInt8} {l : List GV} {ns : List (List UInt8)} (h : plainV ⟨k, n, t, l, ns⟩ = true) (hk : k ≤ 3) : l = [] ∧ ns = [] := by
  have key : (l.length : Int) + ns.length = 0 := by
    unfold plainV at h
    by_cases h0 : k = 0
    · subst h0; simp at h; omega
    · by_cases h1 : k = 1
      · subst h1; simp at h; omega
      · by_cases h2 : k = 2
        · subst h2; simp at h; omega
        · by_cases h3 : k = 3
          · subst h3; simp at h; omega
          · simp [h0, h1, h2, h3, show ¬ k = 4 by omega, show ¬ k = 5 by omega, show ¬ k = 6 by omega, show ¬ k = 7 by omega] at h
  exact ⟨List.eq_nil_of_length_eq_zero (by omega), List.eq_nil_of_length_eq_zero (by omega)⟩
theorem plain_four {n : Int} {t : List UInt8} {l : List GV} {ns : List (List UInt8)} (h : plainV ⟨4, n, t, l, ns⟩ = true) : ns = [] := by
  simp [plainV] at h
  exact h.1.2
theorem plain_pos {k n : Int} {t : List UInt8} {l : List GV} {ns : List (List UInt8)} (h : plainV ⟨k, n, t, l, ns⟩ = true) : 0 ≤ k := by
  rcases Int.lt_or_le k 0 with h1 | h1
  · exfalso
    simp [plainV, show ¬ k = 0 by omega, show ¬ k = 1 by omega, show ¬ k = 2 by omega, show ¬ k = 3 by omega, show ¬ k = 4 by omega, show ¬ k = 5 by omega, show ¬ k = 6 by omega, show ¬ k = 7 by omega] at h
  · exact h1
theorem fitsIn_ok : ∀ (d : Nat) (v : GV), d ≤ 1000 → v.fits → PCall P 55 [.agg v.enc, .int .i64 d, .bool false] (.bool (okV false d v))
  | 0, ⟨k, n, t, l, ns⟩, hd, hf => by
    refine pcall_of_fcall (fcall_walk T_ok ok_55 rfl ?_)
    unfold Go.Proofs.Try.f55
    simp only [Option.getD_some, envOf, Nat.zero_add, Nat.reduceAdd, GV.enc]
    (all_goals (have X1 := @encs_len; have X2 := @encs_get; have X3 := @enc_len; have X4 := @enc_take; have X5 := @enc_frz; have X6 := @enc_all; (repeat' (first | refine gg ?_ | (refine gd ?_ ?_ <;> (intro hcond; try (exfalso; omega))) | (refine gc ?_ ?_ <;> intro hcs) | fail)); all_goals try clear X1 X2 X3 X4 X5 X6))
    all_goals rfl
  | d + 1, v, hd, hf => by
    have hdm : ((d + 1 : Nat) : Int) - 1 = (d : Int) := by omega
    have hd1 : decide (((d + 1 : Nat) : Int) < 1) = false := by simp; omega
    refine pcall_of_fcall (fcall_walk T_ok ok_55 rfl ?_)
    unfold Go.Proofs.Try.f55
    simp only [Option.getD_some, envOf, Nat.zero_add, Nat.reduceAdd]
    (all_goals (have X1 := @encs_len; have X2 := @encs_get; have X3 := @enc_len; have X4 := @enc_take; have X5 := @enc_frz; have X6 := @enc_all; have X7 := @hd1; have X8 := @hdm; (repeat' (first | refine gg ?_ | (refine gd ?_ ?_ <;> (intro hcond; try (exfalso; omega))) | (refine gc ?_ ?_ <;> intro hcs) | fail)); all_goals try clear X1 X2 X3 X4 X5 X6 X7 X8))
    (have X1 := @encs_len; have X2 := @encs_get; have X3 := @enc_len; have X4 := @enc_take; have X5 := @enc_frz; have X6 := @enc_all; have X7 := @hd1; have X8 := @hdm; ((apply ar_call rfl ok_83); (focus exact eva); (focus exact itemOf_ok v hf); (focus rfl); (focus rfl)); all_goals try clear X1 X2 X3 X4 X5 X6 X7 X8)
    by_cases htop : topI v = true
    · obtain ⟨k, n, t, l, ns⟩ := v
      obtain ⟨f1, f2, f3, f4, f5, f6, f7⟩ := hf
      have htop' := htop
      simp only [topI, Bool.and_eq_true] at htop'
      obtain ⟨hpl, hon⟩ := htop'
      by_cases h0 : k = 0
      · subst h0
        rw [show itemAV ⟨0, n, t, l, ns⟩ = .iface 146 (.agg []) by simp [itemAV, htop, itemT]]
        have hok : okV false (d + 1) ⟨0, n, t, l, ns⟩ = (List.range ([] : List GV).length).all fun i => okV false d (([] : List GV).getD i default) := by
          obtain ⟨rfl, rfl⟩ := plain_nil hpl (by omega)
          rw [okV_succ, hpl]; rfl
        (all_goals (have X1 := @encs_len; have X2 := @encs_get; have X3 := @enc_len; have X4 := @enc_take; have X5 := @enc_frz; have X6 := @enc_all; have X7 := @hd1; have X8 := @hdm; (repeat' (first | refine gg ?_ | (refine gd ?_ ?_ <;> (intro hcond; try (exfalso; omega))) | (refine gc ?_ ?_ <;> intro hcs) | fail)); all_goals try clear X1 X2 X3 X4 X5 X6 X7 X8))
        (have X1 := @encs_len; have X2 := @encs_get; have X3 := @enc_len; have X4 := @enc_take; have X5 := @enc_frz; have X6 := @enc_all; have X7 := @hd1; have X8 := @hdm; (refine ar_invoke rfl eva ok_132 methAll.2.2.1 rfl (within132) rfl rfl ?_); all_goals try clear X1 X2 X3 X4 X5 X6 X7 X8)
        (all_goals (have X1 := @encs_len; have X2 := @encs_get; have X3 := @enc_len; have X4 := @enc_take; have X5 := @enc_frz; have X6 := @enc_all; have X7 := @hd1; have X8 := @hdm; (repeat' (first | refine gg ?_ | (refine gd ?_ ?_ <;> (intro hcond; try (exfalso; omega))) | (refine gc ?_ ?_ <;> intro hcs) | fail)); all_goals try clear X1 X2 X3 X4 X5 X6 X7 X8))
        generalize GV.mk 0 n t l ns = v at *
        obtain ⟨L, hL⟩ : ∃ L : List GV, L = [] := ⟨_, rfl⟩
        have hLl : Len L := by rw [hL]; simp
        have hLf : ∀ x ∈ L, x.fits := by rw [hL]; simp
        rw [← hL] at hok
        refine aw_loopc (fun k' env H => ∃ (i : Nat), i ≤ L.length ∧ k' = L.length - i ∧ H = [.dead] ∧ (∀ j, j < i → okV false d (L.getD j default) = true) ∧ env = [(1, .int .i64 (d + 1 : Nat)), (2, .bool false), (25, .fsl 5 (encs L)), (26, .int .i64 L.length), (27, .int .i64 i)]) L.length [(1, .int .i64 (d + 1 : Nat)), (2, .bool false), (25, .fsl 5 (encs L)), (26, .int .i64 L.length), (27, .int .i64 0)] [.dead] (by subst hL; simp [subP, Env.get, Weak.refl, encs]) rfl ⟨.dead _, trivial⟩ rfl rfl ⟨0, Nat.zero_le _, rfl, rfl, fun j hj => by omega, rfl⟩ ?_
        rintro k' env H ⟨i, hi, hk, rfl, hinv, rfl⟩
        by_cases hlt : i < L.length
        · obtain ⟨u, hu⟩ : ∃ u, L.getD i default = u := ⟨_, rfl⟩
          have hfu : u.fits := hu ▸ hLf _ (mem_getD hlt)
          obtain ⟨uk, un, ut, ul, uns⟩ := u
          (all_goals (have X1 := @encs_len; have X2 := @encs_get; have X3 := @GV.enc.eq_1; have X4 := @hu; have X5 := @hdm; (repeat' (first | refine gg ?_ | (refine gd ?_ ?_ <;> (intro hcond; try (exfalso; omega))) | (refine gc ?_ ?_ <;> intro hcs) | fail)); all_goals try clear X1 X2 X3 X4 X5))
          (have X1 := @encs_len; have X2 := @encs_get; have X3 := @GV.enc.eq_1; have X4 := @hu; have X5 := @hdm; ((apply ar_call rfl ok_55); (focus exact eva); (focus exact fitsIn_ok d ⟨uk, un, ut, ul, uns⟩ (by omega) hfu); (focus rfl); (focus rfl)); all_goals try clear X1 X2 X3 X4 X5)
          (all_goals (have X1 := @encs_len; have X2 := @encs_get; have X3 := @GV.enc.eq_1; have X4 := @hu; have X5 := @hdm; (repeat' (first | refine gg ?_ | (refine gd ?_ ?_ <;> (intro hcond; try (exfalso; omega))) | (refine gc ?_ ?_ <;> intro hcs) | fail)); all_goals try clear X1 X2 X3 X4 X5))
          · rw [show okV false (d + 1) v = false by rw [hok, allr_false hlt (by rw [hu]; simpa using hcs)]]; rfl
          · exact anext0 [(1, .int .i64 (d + 1 : Nat)), (2, .bool false), (25, .fsl 5 (encs L)), (26, .int .i64 L.length), (27, .int .i64 (i + 1 : Nat))] [.dead] (k' := L.length - (i + 1)) (by omega) sb rfl ⟨.refl _, trivial⟩ rfl rfl ⟨i + 1, by omega, rfl, rfl, snoc_all hinv (by rw [hu]; simpa using hcs), rfl⟩
        · have : i = L.length := by omega
          subst this
          (all_goals (have X1 := @encs_len; have X2 := @encs_get; have X3 := @enc_len; have X4 := @enc_take; have X5 := @enc_frz; have X6 := @enc_all; have X7 := @hd1; have X8 := @hdm; (repeat' (first | refine gg ?_ | (refine gd ?_ ?_ <;> (intro hcond; try (exfalso; omega))) | (refine gc ?_ ?_ <;> intro hcs) | fail)); all_goals try clear X1 X2 X3 X4 X5 X6 X7 X8))
          rw [show okV false (d + 1) v = true by rw [hok, allr_true hinv]]; rfl
      by_cases h1 : k = 1
      · subst h1
        rw [show itemAV ⟨1, n, t, l, ns⟩ = .iface 147 (.bool (n == 1)) by simp [itemAV, htop, itemT]]
        have hok : okV false (d + 1) ⟨1, n, t, l, ns⟩ = (List.range ([] : List GV).length).all fun i => okV false d (([] : List GV).getD i default) := by
          obtain ⟨rfl, rfl⟩ := plain_nil hpl (by omega)
          rw [okV_succ, hpl]; rfl
        (all_goals (have X1 := @encs_len; have X2 := @encs_get; have X3 := @enc_len; have X4 := @enc_take; have X5 := @enc_frz; have X6 := @enc_all; have X7 := @hd1; have X8 := @hdm; (repeat' (first | refine gg ?_ | (refine gd ?_ ?_ <;> (intro hcond; try (exfalso; omega))) | (refine gc ?_ ?_ <;> intro hcs) | fail)); all_goals try clear X1 X2 X3 X4 X5 X6 X7 X8))
        (have X1 := @encs_len; have X2 := @encs_get; have X3 := @enc_len; have X4 := @enc_take; have X5 := @enc_frz; have X6 := @enc_all; have X7 := @hd1; have X8 := @hdm; (refine ar_invoke rfl eva ok_133 methAll.2.2.2.1 rfl (within133 _) rfl rfl ?_); all_goals try clear X1 X2 X3 X4 X5 X6 X7 X8)
        (all_goals (have X1 := @encs_len; have X2 := @encs_get; have X3 := @enc_len; have X4 := @enc_take; have X5 := @enc_frz; have X6 := @enc_all; have X7 := @hd1; have X8 := @hdm; (repeat' (first | refine gg ?_ | (refine gd ?_ ?_ <;> (intro hcond; try (exfalso; omega))) | (refine gc ?_ ?_ <;> intro hcs) | fail)); all_goals try clear X1 X2 X3 X4 X5 X6 X7 X8))
        generalize GV.mk 1 n t l ns = v at *
        obtain ⟨L, hL⟩ : ∃ L : List GV, L = [] := ⟨_, rfl⟩
        have hLl : Len L := by rw [hL]; simp
        have hLf : ∀ x ∈ L, x.fits := by rw [hL]; simp
        rw [← hL] at hok
        refine aw_loopc (fun k' env H => ∃ (i : Nat), i ≤ L.length ∧ k' = L.length - i ∧ H = [.dead] ∧ (∀ j, j < i → okV false d (L.getD j default) = true) ∧ env = [(1, .int .i64 (d + 1 : Nat)), (2, .bool false), (25, .fsl 5 (encs L)), (26, .int .i64 L.length), (27, .int .i64 i)]) L.length [(1, .int .i64 (d + 1 : Nat)), (2, .bool false), (25, .fsl 5 (encs L)), (26, .int .i64 L.length), (27, .int .i64 0)] [.dead] (by subst hL; simp [subP, Env.get, Weak.refl, encs]) rfl ⟨.dead _, trivial⟩ rfl rfl ⟨0, Nat.zero_le _, rfl, rfl, fun j hj => by omega, rfl⟩ ?_
        rintro k' env H ⟨i, hi, hk, rfl, hinv, rfl⟩
        by_cases hlt : i < L.length
        · obtain ⟨u, hu⟩ : ∃ u, L.getD i default = u := ⟨_, rfl⟩
          have hfu : u.fits := hu ▸ hLf _ (mem_getD hlt)
          obtain ⟨uk, un, ut, ul, uns⟩ := u
          (all_goals (have X1 := @encs_len; have X2 := @encs_get; have X3 := @GV.enc.eq_1; have X4 := @hu; have X5 := @hdm; (repeat' (first | refine gg ?_ | (refine gd ?_ ?_ <;> (intro hcond; try (exfalso; omega))) | (refine gc ?_ ?_ <;> intro hcs) | fail)); all_goals try clear X1 X2 X3 X4 X5))
          (have X1 := @encs_len; have X2 := @encs_get; have X3 := @GV.enc.eq_1; have X4 := @hu; have X5 := @hdm; ((apply ar_call rfl ok_55); (focus exact eva); (focus exact fitsIn_ok d ⟨uk, un, ut, ul, uns⟩ (by omega) hfu); (focus rfl); (focus rfl)); all_goals try clear X1 X2 X3 X4 X5)
          (all_goals (have X1 := @encs_len; have X2 := @encs_get; have X3 := @GV.enc.eq_1; have X4 := @hu; have X5 := @hdm; (repeat' (first | refine gg ?_ | (refine gd ?_ ?_ <;> (intro hcond; try (exfalso; omega))) | (refine gc ?_ ?_ <;> intro hcs) | fail)); all_goals try clear X1 X2 X3 X4 X5))
          · rw [show okV false (d + 1) v = false by rw [hok, allr_false hlt (by rw [hu]; simpa using hcs)]]; rfl
          · exact anext0 [(1, .int .i64 (d + 1 : Nat)), (2, .bool false), (25, .fsl 5 (encs L)), (26, .int .i64 L.length), (27, .int .i64 (i + 1 : Nat))] [.dead] (k' := L.length - (i + 1)) (by omega) sb rfl ⟨.refl _, trivial⟩ rfl rfl ⟨i + 1, by omega, rfl, rfl, snoc_all hinv (by rw [hu]; simpa using hcs), rfl⟩
        · have : i = L.length := by omega
          subst this
          (all_goals (have X1 := @encs_len; have X2 := @encs_get; have X3 := @enc_len; have X4 := @enc_take; have X5 := @enc_frz; have X6 := @enc_all; have X7 := @hd1; have X8 := @hdm; (repeat' (first | refine gg ?_ | (refine gd ?_ ?_ <;> (intro hcond; try (exfalso; omega))) | (refine gc ?_ ?_ <;> intro hcs) | fail)); all_goals try clear X1 X2 X3 X4 X5 X6 X7 X8))
          rw [show okV false (d + 1) v = true by rw [hok, allr_true hinv]]; rfl
      by_cases h2 : k = 2
      · subst h2
        rw [show itemAV ⟨2, n, t, l, ns⟩ = .iface 148 (.int .i64 n) by simp [itemAV, htop, itemT]]
        have hok : okV false (d + 1) ⟨2, n, t, l, ns⟩ = (List.range ([] : List GV).length).all fun i => okV false d (([] : List GV).getD i default) := by
          obtain ⟨rfl, rfl⟩ := plain_nil hpl (by omega)
          rw [okV_succ, hpl]; rfl
        (all_goals (have X1 := @encs_len; have X2 := @encs_get; have X3 := @enc_len; have X4 := @enc_take; have X5 := @enc_frz; have X6 := @enc_all; have X7 := @hd1; have X8 := @hdm; (repeat' (first | refine gg ?_ | (refine gd ?_ ?_ <;> (intro hcond; try (exfalso; omega))) | (refine gc ?_ ?_ <;> intro hcs) | fail)); all_goals try clear X1 X2 X3 X4 X5 X6 X7 X8))
        (have X1 := @encs_len; have X2 := @encs_get; have X3 := @enc_len; have X4 := @enc_take; have X5 := @enc_frz; have X6 := @enc_all; have X7 := @hd1; have X8 := @hdm; (refine ar_invoke rfl eva ok_134 methAll.2.2.2.2.1 rfl (within134 _) rfl rfl ?_); all_goals try clear X1 X2 X3 X4 X5 X6 X7 X8)
        (all_goals (have X1 := @encs_len; have X2 := @encs_get; have X3 := @enc_len; have X4 := @enc_take; have X5 := @enc_frz; have X6 := @enc_all; have X7 := @hd1; have X8 := @hdm; (repeat' (first | refine gg ?_ | (refine gd ?_ ?_ <;> (intro hcond; try (exfalso; omega))) | (refine gc ?_ ?_ <;> intro hcs) | fail)); all_goals try clear X1 X2 X3 X4 X5 X6 X7 X8))
        generalize GV.mk 2 n t l ns = v at *
        obtain ⟨L, hL⟩ : ∃ L : List GV, L = [] := ⟨_, rfl⟩
        have hLl : Len L := by rw [hL]; simp
        have hLf : ∀ x ∈ L, x.fits := by rw [hL]; simp
        rw [← hL] at hok
        refine aw_loopc (fun k' env H => ∃ (i : Nat), i ≤ L.length ∧ k' = L.length - i ∧ H = [.dead] ∧ (∀ j, j < i → okV false d (L.getD j default) = true) ∧ env = [(1, .int .i64 (d + 1 : Nat)), (2, .bool false), (25, .fsl 5 (encs L)), (26, .int .i64 L.length), (27, .int .i64 i)]) L.length [(1, .int .i64 (d + 1 : Nat)), (2, .bool false), (25, .fsl 5 (encs L)), (26, .int .i64 L.length), (27, .int .i64 0)] [.dead] (by subst hL; simp [subP, Env.get, Weak.refl, encs]) rfl ⟨.dead _, trivial⟩ rfl rfl ⟨0, Nat.zero_le _, rfl, rfl, fun j hj => by omega, rfl⟩ ?_
        rintro k' env H ⟨i, hi, hk, rfl, hinv, rfl⟩
        by_cases hlt : i < L.length
        · obtain ⟨u, hu⟩ : ∃ u, L.getD i default = u := ⟨_, rfl⟩
          have hfu : u.fits := hu ▸ hLf _ (mem_getD hlt)
          obtain ⟨uk, un, ut, ul, uns⟩ := u
          (all_goals (have X1 := @encs_len; have X2 := @encs_get; have X3 := @GV.enc.eq_1; have X4 := @hu; have X5 := @hdm; (repeat' (first | refine gg ?_ | (refine gd ?_ ?_ <;> (intro hcond; try (exfalso; omega))) | (refine gc ?_ ?_ <;> intro hcs) | fail)); all_goals try clear X1 X2 X3 X4 X5))
          (have X1 := @encs_len; have X2 := @encs_get; have X3 := @GV.enc.eq_1; have X4 := @hu; have X5 := @hdm; ((apply ar_call rfl ok_55); (focus exact eva); (focus exact fitsIn_ok d ⟨uk, un, ut, ul, uns⟩ (by omega) hfu); (focus rfl); (focus rfl)); all_goals try clear X1 X2 X3 X4 X5)
          (all_goals (have X1 := @encs_len; have X2 := @encs_get; have X3 := @GV.enc.eq_1; have X4 := @hu; have X5 := @hdm; (repeat' (first | refine gg ?_ | (refine gd ?_ ?_ <;> (intro hcond; try (exfalso; omega))) | (refine gc ?_ ?_ <;> intro hcs) | fail)); all_goals try clear X1 X2 X3 X4 X5))
          · rw [show okV false (d + 1) v = false by rw [hok, allr_false hlt (by rw [hu]; simpa using hcs)]]; rfl
          · exact anext0 [(1, .int .i64 (d + 1 : Nat)), (2, .bool false), (25, .fsl 5 (encs L)), (26, .int .i64 L.length), (27, .int .i64 (i + 1 : Nat))] [.dead] (k' := L.length - (i + 1)) (by omega) sb rfl ⟨.refl _, trivial⟩ rfl rfl ⟨i + 1, by omega, rfl, rfl, snoc_all hinv (by rw [hu]; simpa using hcs), rfl⟩
        · have : i = L.length := by omega
          subst this
          (all_goals (have X1 := @encs_len; have X2 := @encs_get; have X3 := @enc_len; have X4 := @enc_take; have X5 := @enc_frz; have X6 := @enc_all; have X7 := @hd1; have X8 := @hdm; (repeat' (first | refine gg ?_ | (refine gd ?_ ?_ <;> (intro hcond; try (exfalso; omega))) | (refine gc ?_ ?_ <;> intro hcs) | fail)); all_goals try clear X1 X2 X3 X4 X5 X6 X7 X8))
          rw [show okV false (d + 1) v = true by rw [hok, allr_true hinv]]; rfl
      by_cases h3 : k = 3
      · subst h3
        rw [show itemAV ⟨3, n, t, l, ns⟩ = .iface 149 (.str t) by simp [itemAV, htop, itemT]]
        have hok : okV false (d + 1) ⟨3, n, t, l, ns⟩ = (List.range ([] : List GV).length).all fun i => okV false d (([] : List GV).getD i default) := by
          obtain ⟨rfl, rfl⟩ := plain_nil hpl (by omega)
          rw [okV_succ, hpl]; rfl
        (all_goals (have X1 := @encs_len; have X2 := @encs_get; have X3 := @enc_len; have X4 := @enc_take; have X5 := @enc_frz; have X6 := @enc_all; have X7 := @hd1; have X8 := @hdm; (repeat' (first | refine gg ?_ | (refine gd ?_ ?_ <;> (intro hcond; try (exfalso; omega))) | (refine gc ?_ ?_ <;> intro hcs) | fail)); all_goals try clear X1 X2 X3 X4 X5 X6 X7 X8))
        (have X1 := @encs_len; have X2 := @encs_get; have X3 := @enc_len; have X4 := @enc_take; have X5 := @enc_frz; have X6 := @enc_all; have X7 := @hd1; have X8 := @hdm; (refine ar_invoke rfl eva ok_135 methAll.2.2.2.2.2.1 rfl (within135 _) rfl rfl ?_); all_goals try clear X1 X2 X3 X4 X5 X6 X7 X8)
        (all_goals (have X1 := @encs_len; have X2 := @encs_get; have X3 := @enc_len; have X4 := @enc_take; have X5 := @enc_frz; have X6 := @enc_all; have X7 := @hd1; have X8 := @hdm; (repeat' (first | refine gg ?_ | (refine gd ?_ ?_ <;> (intro hcond; try (exfalso; omega))) | (refine gc ?_ ?_ <;> intro hcs) | fail)); all_goals try clear X1 X2 X3 X4 X5 X6 X7 X8))
        generalize GV.mk 3 n t l ns = v at *
        obtain ⟨L, hL⟩ : ∃ L : List GV, L = [] := ⟨_, rfl⟩
        have hLl : Len L := by rw [hL]; simp
        have hLf : ∀ x ∈ L, x.fits := by rw [hL]; simp
        rw [← hL] at hok
        refine aw_loopc (fun k' env H => ∃ (i : Nat), i ≤ L.length ∧ k' = L.length - i ∧ H = [.dead] ∧ (∀ j, j < i → okV false d (L.getD j default) = true) ∧ env = [(1, .int .i64 (d + 1 : Nat)), (2, .bool false), (25, .fsl 5 (encs L)), (26, .int .i64 L.length), (27, .int .i64 i)]) L.length [(1, .int .i64 (d + 1 : Nat)), (2, .bool false), (25, .fsl 5 (encs L)), (26, .int .i64 L.length), (27, .int .i64 0)] [.dead] (by subst hL; simp [subP, Env.get, Weak.refl, encs]) rfl ⟨.dead _, trivial⟩ rfl rfl ⟨0, Nat.zero_le _, rfl, rfl, fun j hj => by omega, rfl⟩ ?_
        rintro k' env H ⟨i, hi, hk, rfl, hinv, rfl⟩
        by_cases hlt : i < L.length
        · obtain ⟨u, hu⟩ : ∃ u, L.getD i default = u := ⟨_, rfl⟩
          have hfu : u.fits := hu ▸ hLf _ (mem_getD hlt)
          obtain ⟨uk, un, ut, ul, uns⟩ := u
          (all_goals (have X1 := @encs_len; have X2 := @encs_get; have X3 := @GV.enc.eq_1; have X4 := @hu; have X5 := @hdm; (repeat' (first | refine gg ?_ | (refine gd ?_ ?_ <;> (intro hcond; try (exfalso; omega))) | (refine gc ?_ ?_ <;> intro hcs) | fail)); all_goals try clear X1 X2 X3 X4 X5))
          (have X1 := @encs_len; have X2 := @encs_get; have X3 := @GV.enc.eq_1; have X4 := @hu; have X5 := @hdm; ((apply ar_call rfl ok_55); (focus exact eva); (focus exact fitsIn_ok d ⟨uk, un, ut, ul, uns⟩ (by omega) hfu); (focus rfl); (focus rfl)); all_goals try clear X1 X2 X3 X4 X5)
          (all_goals (have X1 := @encs_len; have X2 := @encs_get; have X3 := @GV.enc.eq_1; have X4 := @hu; have X5 := @hdm; (repeat' (first | refine gg ?_ | (refine gd ?_ ?_ <;> (intro hcond; try (exfalso; omega))) | (refine gc ?_ ?_ <;> intro hcs) | fail)); all_goals try clear X1 X2 X3 X4 X5))
          · rw [show okV false (d + 1) v = false by rw [hok, allr_false hlt (by rw [hu]; simpa using hcs)]]; rfl
          · exact anext0 [(1, .int .i64 (d + 1 : Nat)), (2, .bool false), (25, .fsl 5 (encs L)), (26, .int .i64 L.length), (27, .int .i64 (i + 1 : Nat))] [.dead] (k' := L.length - (i + 1)) (by omega) sb rfl ⟨.refl _, trivial⟩ rfl rfl ⟨i + 1, by omega, rfl, rfl, snoc_all hinv (by rw [hu]; simpa using hcs), rfl⟩
        · have : i = L.length := by omega
          subst this
          (all_goals (have X1 := @encs_len; have X2 := @encs_get; have X3 := @enc_len; have X4 := @enc_take; have X5 := @enc_frz; have X6 := @enc_all; have X7 := @hd1; have X8 := @hdm; (repeat' (first | refine gg ?_ | (refine gd ?_ ?_ <;> (intro hcond; try (exfalso; omega))) | (refine gc ?_ ?_ <;> intro hcs) | fail)); all_goals try clear X1 X2 X3 X4 X5 X6 X7 X8))
          rw [show okV false (d + 1) v = true by rw [hok, allr_true hinv]]; rfl
      by_cases h4 : k = 4
      · subst h4
        rw [show itemAV ⟨4, n, t, l, ns⟩ = .iface 150 (.fsl 5 (encs l)) by simp [itemAV, htop, itemT]]
        have hok : okV false (d + 1) ⟨4, n, t, l, ns⟩ = (List.range (l : List GV).length).all fun i => okV false d ((l : List GV).getD i default) := by
          have hns := plain_four hpl
          subst hns
          rw [okV_succ, hpl]; simp [once]
        (all_goals (have X1 := @encs_len; have X2 := @encs_get; have X3 := @enc_len; have X4 := @enc_take; have X5 := @enc_frz; have X6 := @enc_all; have X7 := @hd1; have X8 := @hdm; (repeat' (first | refine gg ?_ | (refine gd ?_ ?_ <;> (intro hcond; try (exfalso; omega))) | (refine gc ?_ ?_ <;> intro hcs) | fail)); all_goals try clear X1 X2 X3 X4 X5 X6 X7 X8))
        (have X1 := @encs_len; have X2 := @encs_get; have X3 := @enc_len; have X4 := @enc_take; have X5 := @enc_frz; have X6 := @enc_all; have X7 := @hd1; have X8 := @hdm; (refine ar_invoke rfl eva ok_136 methAll.2.2.2.2.2.2.1 rfl (within136 l) rfl rfl ?_); all_goals try clear X1 X2 X3 X4 X5 X6 X7 X8)
        (all_goals (have X1 := @encs_len; have X2 := @encs_get; have X3 := @enc_len; have X4 := @enc_take; have X5 := @enc_frz; have X6 := @enc_all; have X7 := @hd1; have X8 := @hdm; (repeat' (first | refine gg ?_ | (refine gd ?_ ?_ <;> (intro hcond; try (exfalso; omega))) | (refine gc ?_ ?_ <;> intro hcs) | fail)); all_goals try clear X1 X2 X3 X4 X5 X6 X7 X8))
        generalize GV.mk 4 n t l ns = v at *
        obtain ⟨L, hL⟩ : ∃ L : List GV, L = l := ⟨_, rfl⟩
        have hLl : Len L := by rw [hL]; exact f4
        have hLf : ∀ x ∈ L, x.fits := by rw [hL]; exact fitss_mem f5
        rw [← hL] at hok
        refine aw_loopc (fun k' env H => ∃ (i : Nat), i ≤ L.length ∧ k' = L.length - i ∧ H = [.dead] ∧ (∀ j, j < i → okV false d (L.getD j default) = true) ∧ env = [(1, .int .i64 (d + 1 : Nat)), (2, .bool false), (25, .fsl 5 (encs L)), (26, .int .i64 L.length), (27, .int .i64 i)]) L.length [(1, .int .i64 (d + 1 : Nat)), (2, .bool false), (25, .fsl 5 (encs L)), (26, .int .i64 L.length), (27, .int .i64 0)] [.dead] (by subst hL; simp [subP, Env.get, Weak.refl, encs]) rfl ⟨.dead _, trivial⟩ rfl rfl ⟨0, Nat.zero_le _, rfl, rfl, fun j hj => by omega, rfl⟩ ?_
        rintro k' env H ⟨i, hi, hk, rfl, hinv, rfl⟩
        by_cases hlt : i < L.length
        · obtain ⟨u, hu⟩ : ∃ u, L.getD i default = u := ⟨_, rfl⟩
          have hfu : u.fits := hu ▸ hLf _ (mem_getD hlt)
          obtain ⟨uk, un, ut, ul, uns⟩ := u
          (all_goals (have X1 := @encs_len; have X2 := @encs_get; have X3 := @GV.enc.eq_1; have X4 := @hu; have X5 := @hdm; (repeat' (first | refine gg ?_ | (refine gd ?_ ?_ <;> (intro hcond; try (exfalso; omega))) | (refine gc ?_ ?_ <;> intro hcs) | fail)); all_goals try clear X1 X2 X3 X4 X5))
          (have X1 := @encs_len; have X2 := @encs_get; have X3 := @GV.enc.eq_1; have X4 := @hu; have X5 := @hdm; ((apply ar_call rfl ok_55); (focus exact eva); (focus exact fitsIn_ok d ⟨uk, un, ut, ul, uns⟩ (by omega) hfu); (focus rfl); (focus rfl)); all_goals try clear X1 X2 X3 X4 X5)
          (all_goals (have X1 := @encs_len; have X2 := @encs_get; have X3 := @GV.enc.eq_1; have X4 := @hu; have X5 := @hdm; (repeat' (first | refine gg ?_ | (refine gd ?_ ?_ <;> (intro hcond; try (exfalso; omega))) | (refine gc ?_ ?_ <;> intro hcs) | fail)); all_goals try clear X1 X2 X3 X4 X5))
          · rw [show okV false (d + 1) v = false by rw [hok, allr_false hlt (by rw [hu]; simpa using hcs)]]; rfl
          · exact anext0 [(1, .int .i64 (d + 1 : Nat)), (2, .bool false), (25, .fsl 5 (encs L)), (26, .int .i64 L.length), (27, .int .i64 (i + 1 : Nat))] [.dead] (k' := L.length - (i + 1)) (by omega) sb rfl ⟨.refl _, trivial⟩ rfl rfl ⟨i + 1, by omega, rfl, rfl, snoc_all hinv (by rw [hu]; simpa using hcs), rfl⟩
        · have : i = L.length := by omega
          subst this
          (all_goals (have X1 := @encs_len; have X2 := @encs_get; have X3 := @enc_len; have X4 := @enc_take; have X5 := @enc_frz; have X6 := @enc_all; have X7 := @hd1; have X8 := @hdm; (repeat' (first | refine gg ?_ | (refine gd ?_ ?_ <;> (intro hcond; try (exfalso; omega))) | (refine gc ?_ ?_ <;> intro hcs) | fail)); all_goals try clear X1 X2 X3 X4 X5 X6 X7 X8))
          rw [show okV false (d + 1) v = true by rw [hok, allr_true hinv]]; rfl
      by_cases h5 : k = 5
      · subst h5
        rw [show itemAV ⟨5, n, t, l, ns⟩ = .iface 152 (.agg [.fsl 1 (strs ns), .fsl 5 (encs l)]) by simp [itemAV, htop, itemT]]
        have hok : okV false (d + 1) ⟨5, n, t, l, ns⟩ = (List.range (l : List GV).length).all fun i => okV false d ((l : List GV).getD i default) := by
          have ho : once ns = true := by simpa using hon
          rw [okV_succ, hpl, ho]; simp
        (all_goals (have X1 := @encs_len; have X2 := @encs_get; have X3 := @enc_len; have X4 := @enc_take; have X5 := @enc_frz; have X6 := @enc_all; have X7 := @hd1; have X8 := @hdm; (repeat' (first | refine gg ?_ | (refine gd ?_ ?_ <;> (intro hcond; try (exfalso; omega))) | (refine gc ?_ ?_ <;> intro hcs) | fail)); all_goals try clear X1 X2 X3 X4 X5 X6 X7 X8))
        (have X1 := @encs_len; have X2 := @encs_get; have X3 := @enc_len; have X4 := @enc_take; have X5 := @enc_frz; have X6 := @enc_all; have X7 := @hd1; have X8 := @hdm; (refine ar_invoke rfl eva ok_137 methAll.2.2.2.2.2.2.2 rfl (within137 l ns) rfl rfl ?_); all_goals try clear X1 X2 X3 X4 X5 X6 X7 X8)
        (all_goals (have X1 := @encs_len; have X2 := @encs_get; have X3 := @enc_len; have X4 := @enc_take; have X5 := @enc_frz; have X6 := @enc_all; have X7 := @hd1; have X8 := @hdm; (repeat' (first | refine gg ?_ | (refine gd ?_ ?_ <;> (intro hcond; try (exfalso; omega))) | (refine gc ?_ ?_ <;> intro hcs) | fail)); all_goals try clear X1 X2 X3 X4 X5 X6 X7 X8))
        generalize GV.mk 5 n t l ns = v at *
        obtain ⟨L, hL⟩ : ∃ L : List GV, L = l := ⟨_, rfl⟩
        have hLl : Len L := by rw [hL]; exact f4
        have hLf : ∀ x ∈ L, x.fits := by rw [hL]; exact fitss_mem f5
        rw [← hL] at hok
        refine aw_loopc (fun k' env H => ∃ (i : Nat), i ≤ L.length ∧ k' = L.length - i ∧ H = [.dead] ∧ (∀ j, j < i → okV false d (L.getD j default) = true) ∧ env = [(1, .int .i64 (d + 1 : Nat)), (2, .bool false), (25, .fsl 5 (encs L)), (26, .int .i64 L.length), (27, .int .i64 i)]) L.length [(1, .int .i64 (d + 1 : Nat)), (2, .bool false), (25, .fsl 5 (encs L)), (26, .int .i64 L.length), (27, .int .i64 0)] [.dead] (by subst hL; simp [subP, Env.get, Weak.refl, encs]) rfl ⟨.dead _, trivial⟩ rfl rfl ⟨0, Nat.zero_le _, rfl, rfl, fun j hj => by omega, rfl⟩ ?_
        rintro k' env H ⟨i, hi, hk, rfl, hinv, rfl⟩
        by_cases hlt : i < L.length
        · obtain ⟨u, hu⟩ : ∃ u, L.getD i default = u := ⟨_, rfl⟩
          have hfu : u.fits := hu ▸ hLf _ (mem_getD hlt)
          obtain ⟨uk, un, ut, ul, uns⟩ := u
          (all_goals (have X1 := @encs_len; have X2 := @encs_get; have X3 := @GV.enc.eq_1; have X4 := @hu; have X5 := @hdm; (repeat' (first | refine gg ?_ | (refine gd ?_ ?_ <;> (intro hcond; try (exfalso; omega))) | (refine gc ?_ ?_ <;> intro hcs) | fail)); all_goals try clear X1 X2 X3 X4 X5))
          (have X1 := @encs_len; have X2 := @encs_get; have X3 := @GV.enc.eq_1; have X4 := @hu; have X5 := @hdm; ((apply ar_call rfl ok_55); (focus exact eva); (focus exact fitsIn_ok d ⟨uk, un, ut, ul, uns⟩ (by omega) hfu); (focus rfl); (focus rfl)); all_goals try clear X1 X2 X3 X4 X5)
          (all_goals (have X1 := @encs_len; have X2 := @encs_get; have X3 := @GV.enc.eq_1; have X4 := @hu; have X5 := @hdm; (repeat' (first | refine gg ?_ | (refine gd ?_ ?_ <;> (intro hcond; try (exfalso; omega))) | (refine gc ?_ ?_ <;> intro hcs) | fail)); all_goals try clear X1 X2 X3 X4 X5))
          · rw [show okV false (d + 1) v = false by rw [hok, allr_false hlt (by rw [hu]; simpa using hcs)]]; rfl
          · exact anext0 [(1, .int .i64 (d + 1 : Nat)), (2, .bool false), (25, .fsl 5 (encs L)), (26, .int .i64 L.length), (27, .int .i64 (i + 1 : Nat))] [.dead] (k' := L.length - (i + 1)) (by omega) sb rfl ⟨.refl _, trivial⟩ rfl rfl ⟨i + 1, by omega, rfl, rfl, snoc_all hinv (by rw [hu]; simpa using hcs), rfl⟩
        · have : i = L.length := by omega
          subst this
          (all_goals (have X1 := @encs_len; have X2 := @encs_get; have X3 := @enc_len; have X4 := @enc_take; have X5 := @enc_frz; have X6 := @enc_all; have X7 := @hd1; have X8 := @hdm; (repeat' (first | refine gg ?_ | (refine gd ?_ ?_ <;> (intro hcond; try (exfalso; omega))) | (refine gc ?_ ?_ <;> intro hcs) | fail)); all_goals try clear X1 X2 X3 X4 X5 X6 X7 X8))
          rw [show okV false (d + 1) v = true by rw [hok, allr_true hinv]]; rfl
      have hgt : ¬ k ≤ 5 := fun h => by
        have := plain_pos hpl
        omega
      have hfalse : okV false (d + 1) ⟨k, n, t, l, ns⟩ = false := by rw [okV_succ]; simp [hgt]
      rw [show itemAV ⟨k, n, t, l, ns⟩ = if k = 6 then .iface 131 (.str t) else .iface 132 (.str t) by simp [itemAV, htop, itemT, h0, h1, h2, h3, h4, h5]]
      by_cases h6 : k = 6
      · rw [if_pos h6]
        (all_goals (have X1 := @encs_len; have X2 := @encs_get; have X3 := @enc_len; have X4 := @enc_take; have X5 := @enc_frz; have X6 := @enc_all; have X7 := @hd1; have X8 := @hdm; (repeat' (first | refine gg ?_ | (refine gd ?_ ?_ <;> (intro hcond; try (exfalso; omega))) | (refine gc ?_ ?_ <;> intro hcs) | fail)); all_goals try clear X1 X2 X3 X4 X5 X6 X7 X8))
        rw [hfalse]; rfl
      · rw [if_neg h6]
        (all_goals (have X1 := @encs_len; have X2 := @encs_get; have X3 := @enc_len; have X4 := @enc_take; have X5 := @enc_frz; have X6 := @enc_all; have X7 := @hd1; have X8 := @hdm; (repeat' (first | refine gg ?_ | (refine gd ?_ ?_ <;> (intro hcond; try (exfalso; omega))) | (refine gc ?_ ?_ <;> intro hcs) | fail)); all_goals try clear X1 X2 X3 X4 X5 X6 X7 X8))
        rw [hfalse]; rfl
    · rw [show itemAV v = .nilif from if_neg htop]
      (all_goals (have X1 := @encs_len; have X2 := @encs_get; have X3 := @enc_len; have X4 := @enc_take; have X5 := @enc_frz; have X6 := @enc_all; have X7 := @hd1; have X8 := @hdm; (repeat' (first | refine gg ?_ | (refine gd ?_ ?_ <;> (intro hcond; try (exfalso; omega))) | (refine gc ?_ ?_ <;> intro hcs) | fail)); all_goals try clear X1 X2 X3 X4 X5 X6 X7 X8))
      obtain ⟨k, n, t, l, ns⟩ := v
      rw [okV_top d k n t l ns (by simpa using htop)]; rfl
end Go.Av
set_option linter.unusedVariables false
set_option linter.unusedSimpArgs false
namespace Go.Av
open Go
set_option maxRecDepth 10000
set_option maxHeartbeats 1000000
theorem sameTop_ok (v : GV) (hf : v.fits) : PCall P 62 [.agg v.enc, .agg v.enc] (.bool true) := by
  obtain ⟨k, n, t, l, ns⟩ := v
  obtain ⟨f1, f2, f3, f4, f5, f6, f7⟩ := hf
  refine pcall_of_fcall (fcall_walk T_ok ok_62 rfl ?_)
  unfold Go.Proofs.Try.f62
  simp only [Option.getD_some, envOf, Nat.zero_add, Nat.reduceAdd]
  (all_goals (have X1 := @GV.enc.eq_1; have X2 := @encs_len; have X3 := @strs_len; (repeat' (first | refine gg ?_ | (refine gd ?_ ?_ <;> (intro hcond; try (exfalso; omega))) | (refine gc ?_ ?_ <;> intro hcs) | fail)); all_goals try clear X1 X2 X3))
  all_goals try (exfalso; simp at hcs; done)
  all_goals try (have X1 := @GV.enc.eq_1; have X2 := @encs_len; have X3 := @strs_len; ((apply ar_call rfl ok_91); (focus exact eva); (focus exact equal_ok ns f6); (focus rfl); (focus rfl)); all_goals try clear X1 X2 X3)
  (all_goals (have X1 := @GV.enc.eq_1; have X2 := @encs_len; have X3 := @strs_len; (repeat' (first | refine gg ?_ | (refine gd ?_ ?_ <;> (intro hcond; try (exfalso; omega))) | (refine gc ?_ ?_ <;> intro hcs) | fail)); all_goals try clear X1 X2 X3))
  all_goals first | rfl | (exfalso; simp at hcs; done) | skip
  trace_state
theorem nodeOk_ok (u : GN) (hf : u.fits) : PCall P 79 [.agg u.enc] (.bool (okNd u)) := by
  obtain ⟨id, ty, ⟨k, n, t, l, ns⟩⟩ := u
  obtain ⟨g1, g2, g3⟩ := hf
  refine pcall_of_fcall (fcall_walk T_ok ok_79 rfl ?_)
  unfold Go.Proofs.Try.f79
  simp only [Option.getD_some, envOf, Nat.zero_add, Nat.reduceAdd, GN.enc, GV.enc]
  (all_goals (have X1 := @GN.enc.eq_1; have X2 := @GV.enc.eq_1; have X3 := @encs_len; have X4 := @strs_len; (repeat' (first | refine gg ?_ | (refine gd ?_ ?_ <;> (intro hcond; try (exfalso; omega))) | (refine gc ?_ ?_ <;> intro hcs) | fail)); all_goals try clear X1 X2 X3 X4))
  all_goals try (have X1 := @GN.enc.eq_1; have X2 := @GV.enc.eq_1; have X3 := @encs_len; have X4 := @strs_len; ((apply ar_call rfl ok_54); (focus exact eva); (focus exact isName_ok _ g2); (focus rfl); (focus rfl)); all_goals try clear X1 X2 X3 X4)
  (all_goals (have X1 := @GN.enc.eq_1; have X2 := @GV.enc.eq_1; have X3 := @encs_len; have X4 := @strs_len; (repeat' (first | refine gg ?_ | (refine gd ?_ ?_ <;> (intro hcond; try (exfalso; omega))) | (refine gc ?_ ?_ <;> intro hcs) | fail)); all_goals try clear X1 X2 X3 X4))
  all_goals try (have X1 := @GN.enc.eq_1; have X2 := @GV.enc.eq_1; have X3 := @encs_len; have X4 := @strs_len; ((apply ar_call rfl ok_55); (focus exact eva); (focus exact fitsIn_ok 4 ⟨k, n, t, l, ns⟩ (by omega) g3); (focus rfl); (focus rfl)); all_goals try clear X1 X2 X3 X4)
  (all_goals (have X1 := @GN.enc.eq_1; have X2 := @GV.enc.eq_1; have X3 := @encs_len; have X4 := @strs_len; (repeat' (first | refine gg ?_ | (refine gd ?_ ?_ <;> (intro hcond; try (exfalso; omega))) | (refine gc ?_ ?_ <;> intro hcs) | fail)); all_goals try clear X1 X2 X3 X4))
  all_goals (simp only [frz, aresV, Bool.false_eq_true, if_false, if_true]; refine congrArg (fun b => some (AV.bool b)) ?_; unfold okNd)
  all_goals simp_all [GV.k]
  all_goals (intros; omega)
end Go.Av
set_option linter.unusedVariables false
set_option linter.unusedSimpArgs false
namespace Go.Av
open Go
set_option maxRecDepth 10000
set_option maxHeartbeats 1000000
def zeroV : GV := ⟨0, 0, [], [], []⟩
def cellG (u : GN) (s : List UInt8) : GV := if 0 ≤ idxI u.cells.ns (fun x => s == x) then u.cells.l.getD (idxI u.cells.ns (fun x => s == x)).toNat default else zeroV
theorem cellOf_ok (u : GN) (s : List UInt8) (hf : u.fits) (hlen : u.cells.ns.length = u.cells.l.length) : PCall P 65 [.agg u.enc, .str s] (.agg (cellG u s).enc) := by
  obtain ⟨id, ty, ⟨k, n, t, l, ns⟩⟩ := u
  obtain ⟨g1, g2, f1, f2, f3, f4, f5, f6, f7⟩ := hf
  have hlen : ns.length = l.length := hlen
  refine pcall_of_fcall (fcall_walk T_ok ok_65 rfl ?_)
  unfold Go.Proofs.Try.f65
  simp only [Option.getD_some, envOf, Nat.zero_add, Nat.reduceAdd, GN.enc, GV.enc]
  (all_goals (have X1 := @GN.enc.eq_1; have X2 := @GV.enc.eq_1; have X3 := @encs_len; have X4 := @strs_len; (repeat' (first | refine gg ?_ | (refine gd ?_ ?_ <;> (intro hcond; try (exfalso; omega))) | (refine gc ?_ ?_ <;> intro hcs) | fail)); all_goals try clear X1 X2 X3 X4))
  (have X1 := @GN.enc.eq_1; have X2 := @GV.enc.eq_1; have X3 := @encs_len; have X4 := @strs_len; ((apply ar_call rfl ok_56); (focus exact eva); (focus exact placeOf_ok ns s f6); (focus rfl); (focus rfl)); all_goals try clear X1 X2 X3 X4)
  rcases idxI_cases ns (fun x => s == x) [] with ⟨h1, _⟩ | ⟨i, h1, h2, _⟩
  · rw [show cellG ⟨id, ty, ⟨k, n, t, l, ns⟩⟩ s = zeroV by unfold cellG; rw [if_neg (by show ¬ 0 ≤ idxI ns (fun x => s == x); omega)]]
    rw [h1]
    (all_goals (have X1 := @GN.enc.eq_1; have X2 := @GV.enc.eq_1; have X3 := @encs_len; have X4 := @strs_len; (repeat' (first | refine gg ?_ | (refine gd ?_ ?_ <;> (intro hcond; try (exfalso; omega))) | (refine gc ?_ ?_ <;> intro hcs) | fail)); all_goals try clear X1 X2 X3 X4))
    rfl
  · obtain ⟨v, hv⟩ : ∃ v, l.getD i default = v := ⟨_, rfl⟩
    rw [show cellG ⟨id, ty, ⟨k, n, t, l, ns⟩⟩ s = v by
      unfold cellG
      rw [if_pos (by show 0 ≤ idxI ns (fun x => s == x); omega)]
      show l.getD (idxI ns (fun x => s == x)).toNat default = v
      rw [h1]; exact hv]
    rw [h1]
    obtain ⟨vk, vn, vt, vl, vns⟩ := v
    have hil : i < l.length := by omega
    have hg : (encs l).getD i [] = [.int .i64 vk, .int .i64 vn, .str vt, .fsl 5 (encs vl), .fsl 1 (strs vns)] := by rw [encs_get hil, hv]; rfl
    (all_goals (have X1 := @GN.enc.eq_1; have X2 := @GV.enc.eq_1; have X3 := @encs_len; have X4 := @strs_len; have X5 := @hg; have X6 := @Int.toNat_natCast; (repeat' (first | refine gg ?_ | (refine gd ?_ ?_ <;> (intro hcond; try (exfalso; omega))) | (refine gc ?_ ?_ <;> intro hcs) | fail)); all_goals try clear X1 X2 X3 X4 X5 X6))
    rfl
end Go.Av
set_option linter.unusedVariables false
set_option linter.unusedSimpArgs false
namespace Go.Av
open Go
set_option maxRecDepth 10000
set_option maxHeartbeats 1000000
def keysAV (l : List GN) : List (List AV) := l.map fun n => [.int .i64 n.id]
theorem keys_len (l : List GN) : (keysAV l).length = l.length := by simp [keysAV]
theorem keys_get {l : List GN} {i : Nat} (h : i < l.length) : (keysAV l).getD i [] = [.int .i64 (l.getD i default).id] := by
  simp [keysAV, List.getD_eq_getElem?_getD, h]
theorem place_ok (l : List GN) (id : Int) (b tk ek tr er : Nat) (H : Heap) (hb : H.at b = .row 2 [[.asl tk ek 1 (keysAV l), .asl tr er 7 (encn l)]]) (hl : Len l) :
    FCall P 53 [.ptr b 0 0, .int .i64 id] H fun r H' => r = .int .i64 (idxI l (fun n => n.id == id)) ∧ H' = H := by
  refine fcall_walk T_ok ok_53 rfl ?_
  unfold Go.Proofs.Try.f53
  simp only [Option.getD_some, envOf, Nat.zero_add, Nat.reduceAdd]
  (all_goals (have X1 := @keys_len; have X2 := @keys_get; have X3 := @hb; (repeat' (first | refine gg ?_ | (refine gd ?_ ?_ <;> (intro hcond; try (exfalso; omega))) | (refine gc ?_ ?_ <;> intro hcs) | fail)); all_goals try clear X1 X2 X3))
  refine aw_loopn (fun k env H' => ∃ (i : Nat), i ≤ l.length ∧ k = l.length - i ∧ H' = H ∧ (∀ j, j < i → ((l.getD j default).id == id) = false) ∧ env = [(1, .int .i64 id), (10, .asl tk ek 1 (keysAV l)), (11, .int .i64 l.length), (12, .int .i64 i)]) l.length [(1, .int .i64 id), (10, .asl tk ek 1 (keysAV l)), (11, .int .i64 l.length), (12, .int .i64 0)] H sb (heapW_refl _) rfl ⟨0, Nat.zero_le _, rfl, rfl, fun j hj => by omega, rfl⟩ ?_
  rintro k env H' ⟨i, hi, hk, rfl, hinv, rfl⟩
  by_cases hlt : i < l.length
  · (all_goals (have X1 := @keys_len; have X2 := @keys_get; have X3 := @hb; (repeat' (first | refine gg ?_ | (refine gd ?_ ?_ <;> (intro hcond; try (exfalso; omega))) | (refine gc ?_ ?_ <;> intro hcs) | fail)); all_goals try clear X1 X2 X3))
    · exact ⟨by rw [idxI_found (p := fun n : GN => n.id == id) hlt (by simpa using hcond) hinv]; rfl, rfl⟩
    · refine anextn [(1, .int .i64 id), (10, .asl tk ek 1 (keysAV l)), (11, .int .i64 l.length), (12, .int .i64 (i + 1 : Nat))] _ (k' := l.length - (i + 1)) (by omega) (by omega) sb (heapW_refl _) rfl ⟨i + 1, by omega, rfl, rfl, snoc_all hinv (by simpa using hcond), rfl⟩
  · have : i = l.length := by omega
    subst this
    (all_goals (have X1 := @keys_len; have X2 := @keys_get; have X3 := @hb; (repeat' (first | refine gg ?_ | (refine gd ?_ ?_ <;> (intro hcond; try (exfalso; omega))) | (refine gc ?_ ?_ <;> intro hcs) | fail)); all_goals try clear X1 X2 X3))
    exact ⟨by rw [idxI_none hinv]; rfl, rfl⟩
def zeroN : GN := ⟨0, [], zeroV⟩
def getN (l : List GN) (id : Int) : GN := if 0 ≤ idxI l (fun n => n.id == id) then l.getD (idxI l (fun n => n.id == id)).toNat default else zeroN
theorem get_ok (l : List GN) (id : Int) (b tk ek tr er : Nat) (H : Heap) (hb : H.at b = .row 2 [[.asl tk ek 1 (keysAV l), .asl tr er 7 (encn l)]]) (hbl : b < H.length) (hl : Len l) :
    FCall P 64 [.ptr b 0 0, .int .i64 id] H fun r H' => (∃ ok, r = .tup [.agg (getN l id).enc, .bool ok] ∨ (r = .tup [.agg [.int .i64 0, .str [], .int .i64 0, .int .i64 0, .str [], .nsl 5, .nsl 1], .bool ok] ∧ getN l id = zeroN)) ∧ ∃ N, H' = H ++ N := by
  refine fcall_walk T_ok ok_64 rfl ?_
  unfold Go.Proofs.Try.f64
  simp only [Option.getD_some, envOf, Nat.zero_add, Nat.reduceAdd]
  (all_goals (have X1 := @encn_len; have X2 := @hb; (repeat' (first | refine gg ?_ | (refine gd ?_ ?_ <;> (intro hcond; try (exfalso; omega))) | (refine gc ?_ ?_ <;> intro hcs) | fail)); all_goals try clear X1 X2))
  have hb1 : ∀ G, Heap.at (H ++ G) b = .row 2 [[.asl tk ek 1 (keysAV l), .asl tr er 7 (encn l)]] := fun G => (Heap.at_old _ _ hbl).trans hb
  (have X1 := @encn_len; have X2 := @hb; ((apply ar_fcall rfl ok_53); (focus exact eva); (focus exact place_ok l id b tk ek tr er _ (hb1 _) hl); (focus rfl); (focus rfl)); all_goals try clear X1 X2)
  rintro _ _ ⟨rfl, rfl⟩
  rcases idxI_cases l (fun n => n.id == id) default with ⟨h1, _⟩ | ⟨i, h1, h2, _⟩
  · have hz0 : getN l id = zeroN := by unfold getN; rw [if_neg (by omega)]
    rw [h1]
    (all_goals (have X1 := @encn_len; have X2 := @hb1; (repeat' (first | refine gg ?_ | (refine gd ?_ ?_ <;> (intro hcond; try (exfalso; omega))) | (refine gc ?_ ?_ <;> intro hcs) | fail)); all_goals try clear X1 X2))
    exact ⟨⟨_, .inr ⟨rfl, hz0⟩⟩, _, rfl⟩
  · obtain ⟨v, hv⟩ : ∃ v, l.getD i default = v := ⟨_, rfl⟩
    rw [show getN l id = v by unfold getN; rw [if_pos (by omega), h1]; exact hv]
    rw [h1]
    obtain ⟨vid, vty, ⟨vk, vn, vt, vl, vns⟩⟩ := v
    have hg : (encn l).getD i [] = [.int .i64 vid, .str vty, .int .i64 vk, .int .i64 vn, .str vt, .fsl 5 (encs vl), .fsl 1 (strs vns)] := by rw [encn_get h2, hv]; rfl
    (all_goals (have X1 := @encn_len; have X2 := @hb1; have X3 := @hg; have X4 := @Int.toNat_natCast; (repeat' (first | refine gg ?_ | (refine gd ?_ ?_ <;> (intro hcond; try (exfalso; omega))) | (refine gc ?_ ?_ <;> intro hcs) | fail)); all_goals try clear X1 X2 X3 X4))
    exact ⟨⟨_, .inl rfl⟩, _, rfl⟩
end Go.Av
