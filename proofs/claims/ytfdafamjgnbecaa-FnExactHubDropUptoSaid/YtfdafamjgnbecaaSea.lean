/- The seat's types and functions; sizes, copies and equalities of values, nodes and hubs, within bounds of their sizes. -/
import Derived.Test.YtfdafamjgnbecaaAvc
import Derived.Test.YtfdafamjgnbecaaProg
import Derived.KernelRfl
/- The seat's types. -/
set_option linter.unusedVariables false
namespace Go.Av
open Go
set_option maxRecDepth 10000
def tab : List (Option TyD) := [
  none,
  some ⟨1, 8, false, [.nilfn], .func⟩,
  some ⟨1, 8, false, [.int .i64 0], (.int .i64)⟩,
  some ⟨1, 8, false, [.int .i64 0], (.int .i64)⟩,
  some ⟨1, 1, false, [.bool false], .bool⟩,
  some ⟨1, 1, false, [.int .u8 0], (.int .u8)⟩,
  some ⟨1, 1, false, [.int .u8 0], (.int .u8)⟩,
  some ⟨4, 24, true, [.int .i64 0, .int .i64 0, .bool false, .int .u8 0], (.struct [(0, 2), (1, 3), (2, 4), (3, 6)])⟩,
  some ⟨4, 24, true, [.int .i64 0, .int .i64 0, .bool false, .int .u8 0], (.struct [(0, 2), (1, 3), (2, 4), (3, 6)])⟩,
  some ⟨1, 16, false, [.str []], .str⟩,
  some ⟨1, 16, false, [.str []], .str⟩,
  some ⟨1, 16, false, [.str []], .str⟩,
  some ⟨1, 8, false, [.int .u64 0], (.int .u64)⟩,
  some ⟨2, 24, true, [.str [], .int .u64 0], (.struct [(0, 9), (1, 12)])⟩,
  some ⟨2, 24, true, [.str [], .int .u64 0], (.struct [(0, 9), (1, 12)])⟩,
  some ⟨1, 8, false, [.nilp], (.ptr 171)⟩,
  some ⟨1, 8, false, [.nilp], (.ptr 174)⟩,
  some ⟨1, 8, false, [.nilp], (.ptr 184)⟩,
  some ⟨1, 8, true, [.nilp], (.struct [(0, 17)])⟩,
  some ⟨1, 8, true, [.nilp], (.struct [(0, 17)])⟩,
  some ⟨1, 16, false, [.nilif], (.iface true)⟩,
  some ⟨1, 4, false, [.int .i32 0], (.int .i32)⟩,
  some ⟨1, 24, false, [.nsl 7], (.slice 63)⟩,
  some ⟨1, 8, false, [.nilfn], .func⟩,
  some ⟨1, 24, false, [.nsl 7], (.slice 54)⟩,
  some ⟨1, 24, false, [.nsl 5], (.slice 75)⟩,
  some ⟨2, 48, true, [.nsl 7, .nsl 5], (.struct [(0, 24), (1, 25)])⟩,
  some ⟨2, 48, true, [.nsl 7, .nsl 5], (.struct [(0, 24), (1, 25)])⟩,
  some ⟨1, 8, false, [.nilfn], .func⟩,
  some ⟨1, 8, false, [.nilfn], .func⟩,
  some ⟨1, 8, false, [.nilfn], .func⟩,
  some ⟨1, 8, false, [.nilfn], .func⟩,
  some ⟨1, 8, false, [.nilfn], .func⟩,
  some ⟨1, 8, false, [.nilfn], .func⟩,
  some ⟨1, 8, false, [.nilfn], .func⟩,
  some ⟨1, 24, false, [.nsl 5], (.slice 115)⟩,
  some ⟨2, 48, true, [.nsl 7, .nsl 5], (.struct [(0, 22), (1, 35)])⟩,
  some ⟨2, 48, true, [.nsl 7, .nsl 5], (.struct [(0, 22), (1, 35)])⟩,
  some ⟨1, 8, false, [.nilfn], .func⟩,
  none,
  some ⟨1, 8, false, [.nilfn], .func⟩,
  some ⟨1, 8, false, [.nilfn], .func⟩,
  some ⟨1, 8, false, [.nilfn], .func⟩,
  some ⟨1, 24, false, [.nsl 1], (.slice 5)⟩,
  some ⟨1, 24, false, [.nsl 5], (.slice 47)⟩,
  some ⟨1, 24, false, [.nsl 1], (.slice 9)⟩,
  some ⟨5, 80, true, [.int .i64 0, .int .i64 0, .str [], .nsl 5, .nsl 1], (.struct [(0, 3), (1, 3), (2, 9), (3, 44), (4, 45)])⟩,
  some ⟨5, 80, true, [.int .i64 0, .int .i64 0, .str [], .nsl 5, .nsl 1], (.struct [(0, 3), (1, 3), (2, 9), (3, 44), (4, 45)])⟩,
  none,
  some ⟨1, 8, false, [.nilfn], .func⟩,
  none,
  some ⟨1, 8, false, [.nilfn], .func⟩,
  some ⟨1, 8, false, [.nilfn], .func⟩,
  some ⟨7, 104, true, [.int .i64 0, .str [], .int .i64 0, .int .i64 0, .str [], .nsl 5, .nsl 1], (.struct [(0, 3), (1, 9), (2, 47)])⟩,
  some ⟨7, 104, true, [.int .i64 0, .str [], .int .i64 0, .int .i64 0, .str [], .nsl 5, .nsl 1], (.struct [(0, 3), (1, 9), (2, 47)])⟩,
  some ⟨1, 8, false, [.nilfn], .func⟩,
  some ⟨1, 8, false, [.nilfn], .func⟩,
  some ⟨1, 8, false, [.nilfn], .func⟩,
  some ⟨1, 8, false, [.nilfn], .func⟩,
  some ⟨1, 24, false, [.nsl 5], (.slice 61)⟩,
  some ⟨5, 80, true, [.int .i64 0, .int .i64 0, .str [], .nsl 5, .nsl 1], (.struct [(0, 3), (1, 3), (2, 9), (3, 59), (4, 45)])⟩,
  some ⟨5, 80, true, [.int .i64 0, .int .i64 0, .str [], .nsl 5, .nsl 1], (.struct [(0, 3), (1, 3), (2, 9), (3, 59), (4, 45)])⟩,
  some ⟨7, 104, true, [.int .i64 0, .str [], .int .i64 0, .int .i64 0, .str [], .nsl 5, .nsl 1], (.struct [(0, 3), (1, 9), (2, 61)])⟩,
  some ⟨7, 104, true, [.int .i64 0, .str [], .int .i64 0, .int .i64 0, .str [], .nsl 5, .nsl 1], (.struct [(0, 3), (1, 9), (2, 61)])⟩,
  some ⟨1, 8, false, [.nilfn], .func⟩,
  some ⟨1, 8, false, [.nilfn], .func⟩,
  some ⟨1, 8, false, [.nilfn], .func⟩,
  some ⟨1, 8, false, [.nilfn], .func⟩,
  some ⟨1, 8, false, [.nilfn], .func⟩,
  some ⟨1, 8, false, [.nilfn], .func⟩,
  some ⟨1, 8, false, [.nilfn], .func⟩,
  some ⟨1, 8, false, [.nilfn], .func⟩,
  some ⟨1, 8, false, [.nilfn], .func⟩,
  some ⟨1, 8, false, [.nilfn], .func⟩,
  some ⟨5, 72, true, [.int .i64 0, .str [], .str [], .str [], .str []], (.struct [(0, 3), (1, 9), (2, 9), (3, 9), (4, 9)])⟩,
  some ⟨5, 72, true, [.int .i64 0, .str [], .str [], .str [], .str []], (.struct [(0, 3), (1, 9), (2, 9), (3, 9), (4, 9)])⟩,
  none,
  some ⟨1, 8, false, [.nilfn], .func⟩,
  some ⟨1, 8, false, [.nilfn], .func⟩,
  some ⟨1, 8, false, [.nilfn], .func⟩,
  some ⟨1, 8, false, [.nilfn], .func⟩,
  some ⟨1, 8, false, [.nilfn], .func⟩,
  some ⟨1, 8, false, [.nilp], (.ptr 118)⟩,
  some ⟨1, 8, false, [.nilfn], .func⟩,
  some ⟨1, 8, false, [.nilfn], .func⟩,
  some ⟨1, 8, false, [.nilfn], .func⟩,
  some ⟨1, 8, false, [.nilfn], .func⟩,
  some ⟨1, 8, false, [.nilfn], .func⟩,
  some ⟨1, 8, false, [.nilp], (.ptr 124)⟩,
  none,
  some ⟨1, 8, false, [.nilfn], .func⟩,
  some ⟨1, 8, false, [.nilfn], .func⟩,
  some ⟨1, 8, false, [.nilfn], .func⟩,
  some ⟨1, 8, false, [.nilp], (.ptr 47)⟩,
  some ⟨1, 8, false, [.nilfn], .func⟩,
  some ⟨1, 8, false, [.nilfn], .func⟩,
  some ⟨1, 8, false, [.nilfn], .func⟩,
  some ⟨1, 8, false, [.nilmap], (.map 105 106)⟩,
  some ⟨10, 160, true, [.int .i64 0, .int .i64 0, .str [], .nsl 5, .nsl 1, .int .i64 0, .int .i64 0, .str [], .nsl 5, .nsl 1], (.struct [(0, 47), (5, 47)])⟩,
  some ⟨10, 160, true, [.int .i64 0, .int .i64 0, .str [], .nsl 5, .nsl 1, .int .i64 0, .int .i64 0, .str [], .nsl 5, .nsl 1], (.struct [(0, 47), (5, 47)])⟩,
  some ⟨1, 24, false, [.nsl 10], (.slice 99)⟩,
  some ⟨2, 16, true, [.nilp, .int .i64 0], (.struct [(0, 93), (1, 3)])⟩,
  some ⟨2, 16, true, [.nilp, .int .i64 0], (.struct [(0, 93), (1, 3)])⟩,
  some ⟨1, 8, false, [.nilfn], .func⟩,
  some ⟨4, 32, true, [.nilp, .int .i64 0, .nilp, .int .i64 0], (.struct [(0, 102), (2, 102)])⟩,
  some ⟨4, 32, true, [.nilp, .int .i64 0, .nilp, .int .i64 0], (.struct [(0, 102), (2, 102)])⟩,
  some ⟨0, 0, true, [], (.struct [])⟩,
  none,
  none,
  some ⟨1, 8, false, [.nilfn], .func⟩,
  some ⟨1, 8, false, [.nilfn], .func⟩,
  some ⟨1, 8, false, [.nilfn], .func⟩,
  some ⟨1, 8, false, [.nilfn], .func⟩,
  some ⟨1, 8, false, [.nilfn], .func⟩,
  some ⟨1, 8, false, [.nilfn], .func⟩,
  some ⟨5, 72, true, [.int .i64 0, .str [], .str [], .str [], .str []], (.struct [(0, 3), (1, 9), (2, 9), (3, 9), (4, 9)])⟩,
  some ⟨1, 8, false, [.nilfn], .func⟩,
  some ⟨2, 32, true, [.nsl 1, .int .i64 0], (.struct [(0, 43), (1, 3)])⟩,
  some ⟨2, 32, true, [.nsl 1, .int .i64 0], (.struct [(0, 43), (1, 3)])⟩,
  some ⟨1, 8, false, [.nilfn], .func⟩,
  some ⟨1, 24, false, [.nsl 1], (.slice 3)⟩,
  some ⟨1, 8, false, [.nilfn], .func⟩,
  some ⟨1, 8, false, [.nilfn], .func⟩,
  some ⟨2, 48, true, [.nsl 1, .nsl 7], (.struct [(0, 120), (1, 24)])⟩,
  some ⟨2, 48, true, [.nsl 1, .nsl 7], (.struct [(0, 120), (1, 24)])⟩,
  some ⟨1, 8, false, [.nilfn], .func⟩,
  some ⟨1, 8, false, [.nilfn], .func⟩,
  some ⟨1, 8, false, [.nilfn], .func⟩,
  some ⟨1, 16, false, [.nilif], (.iface false)⟩,
  some ⟨1, 16, false, [.nilif], (.iface false)⟩,
  some ⟨1, 8, false, [.nilfn], .func⟩,
  some ⟨1, 16, false, [.str []], .str⟩,
  some ⟨1, 16, false, [.str []], .str⟩,
  some ⟨1, 8, false, [.nilfn], .func⟩,
  some ⟨1, 8, false, [.nilfn], .func⟩,
  some ⟨1, 8, false, [.nilfn], .func⟩,
  some ⟨1, 8, false, [.nilfn], .func⟩,
  some ⟨1, 8, false, [.nilfn], .func⟩,
  some ⟨1, 8, false, [.nilfn], .func⟩,
  some ⟨1, 8, false, [.nilfn], .func⟩,
  some ⟨1, 8, false, [.nilfn], .func⟩,
  some ⟨1, 8, false, [.nilfn], .func⟩,
  some ⟨1, 8, false, [.nilfn], .func⟩,
  some ⟨1, 8, false, [.nilfn], .func⟩,
  some ⟨1, 8, false, [.nilfn], .func⟩,
  some ⟨1, 8, false, [.nilfn], .func⟩,
  some ⟨0, 0, true, [], (.struct [])⟩,
  some ⟨1, 1, false, [.bool false], .bool⟩,
  some ⟨1, 8, false, [.int .i64 0], (.int .i64)⟩,
  some ⟨1, 16, false, [.str []], .str⟩,
  some ⟨1, 24, false, [.nsl 5], (.slice 47)⟩,
  some ⟨2, 48, true, [.nsl 1, .nsl 5], (.struct [(0, 45), (1, 44)])⟩,
  some ⟨2, 48, true, [.nsl 1, .nsl 5], (.struct [(0, 45), (1, 44)])⟩,
  some ⟨1, 8, false, [.nilp], (.ptr 155)⟩,
  some ⟨4, 48, true, [.nilp, .int .i64 0, .nsl 5, .nilp], (.struct [(0, 102), (2, 44), (3, 153)])⟩,
  some ⟨4, 48, true, [.nilp, .int .i64 0, .nsl 5, .nilp], (.struct [(0, 102), (2, 44), (3, 153)])⟩,
  none,
  some ⟨1, 8, false, [.nilfn], .func⟩,
  none,
  some ⟨1, 8, false, [.nilfn], .func⟩,
  some ⟨1, 8, false, [.nilfn], .func⟩,
  none,
  some ⟨1, 8, false, [.nilfn], .func⟩,
  some ⟨1, 8, false, [.nilfn], .func⟩,
  none,
  some ⟨1, 8, false, [.nilfn], .func⟩,
  none,
  some ⟨1, 8, false, [.nilfn], .func⟩,
  some ⟨1, 8, false, [.nilfn], .func⟩,
  some ⟨1, 8, false, [.nilfn], .func⟩,
  some ⟨4, 40, true, [.nilp, .nilp, .nilp, .str []], (.struct [(0, 17), (1, 17), (2, 17), (3, 9)])⟩,
  some ⟨4, 40, true, [.nilp, .nilp, .nilp, .str []], (.struct [(0, 17), (1, 17), (2, 17), (3, 9)])⟩,
  some ⟨0, 0, true, [], (.array 0 16)⟩,
  some ⟨0, 0, true, [], (.struct [(0, 172)])⟩,
  some ⟨0, 0, true, [], (.struct [(0, 172)])⟩,
  some ⟨1, 8, false, [.nilfn], .func⟩,
  some ⟨1, 4, false, [.int .u32 0], (.int .u32)⟩,
  some ⟨1, 1, false, [.int .u8 0], (.int .u8)⟩,
  some ⟨1, 1, false, [.int .u8 0], (.int .u8)⟩,
  some ⟨1, 8, false, [.nilfn], .func⟩,
  some ⟨1, 8, false, [.nilp], (.ptr 5)⟩,
  some ⟨1, 4, false, [.int .i32 0], (.int .i32)⟩,
  some ⟨1, 4, false, [.int .i32 0], (.int .i32)⟩,
  some ⟨11, 48, true, [.int .u64 0, .int .u64 0, .int .u32 0, .int .u8 0, .int .u8 0, .int .u8 0, .int .u8 0, .nilfn, .nilp, .int .i32 0, .int .i32 0], (.struct [(0, 12), (1, 12), (2, 176), (3, 177), (4, 5), (5, 5), (6, 178), (7, 179), (8, 180), (9, 181), (10, 182)])⟩,
  some ⟨11, 48, true, [.int .u64 0, .int .u64 0, .int .u32 0, .int .u8 0, .int .u8 0, .int .u8 0, .int .u8 0, .nilfn, .nilp, .int .i32 0, .int .i32 0], (.struct [(0, 12), (1, 12), (2, 176), (3, 177), (4, 5), (5, 5), (6, 178), (7, 179), (8, 180), (9, 181), (10, 182)])⟩]
noncomputable abbrev P : Program := Go.Proofs.Try.prog
noncomputable def T : Tys := tyTab tab
theorem T_ok : TyOK P T := tyOK_of_check (by kernel_rfl)
theorem P_mixed : P.follows .mixedOrders = true := by kernel_rfl
@[go_sem] theorem T_1 : T 1 = some ⟨1, 8, false, [.nilfn], .func⟩ := rfl
@[go_sem] theorem T_2 : T 2 = some ⟨1, 8, false, [.int .i64 0], (.int .i64)⟩ := rfl
@[go_sem] theorem T_3 : T 3 = some ⟨1, 8, false, [.int .i64 0], (.int .i64)⟩ := rfl
@[go_sem] theorem T_4 : T 4 = some ⟨1, 1, false, [.bool false], .bool⟩ := rfl
@[go_sem] theorem T_5 : T 5 = some ⟨1, 1, false, [.int .u8 0], (.int .u8)⟩ := rfl
@[go_sem] theorem T_6 : T 6 = some ⟨1, 1, false, [.int .u8 0], (.int .u8)⟩ := rfl
@[go_sem] theorem T_7 : T 7 = some ⟨4, 24, true, [.int .i64 0, .int .i64 0, .bool false, .int .u8 0], (.struct [(0, 2), (1, 3), (2, 4), (3, 6)])⟩ := rfl
@[go_sem] theorem T_8 : T 8 = some ⟨4, 24, true, [.int .i64 0, .int .i64 0, .bool false, .int .u8 0], (.struct [(0, 2), (1, 3), (2, 4), (3, 6)])⟩ := rfl
@[go_sem] theorem T_9 : T 9 = some ⟨1, 16, false, [.str []], .str⟩ := rfl
@[go_sem] theorem T_10 : T 10 = some ⟨1, 16, false, [.str []], .str⟩ := rfl
@[go_sem] theorem T_11 : T 11 = some ⟨1, 16, false, [.str []], .str⟩ := rfl
@[go_sem] theorem T_12 : T 12 = some ⟨1, 8, false, [.int .u64 0], (.int .u64)⟩ := rfl
@[go_sem] theorem T_13 : T 13 = some ⟨2, 24, true, [.str [], .int .u64 0], (.struct [(0, 9), (1, 12)])⟩ := rfl
@[go_sem] theorem T_14 : T 14 = some ⟨2, 24, true, [.str [], .int .u64 0], (.struct [(0, 9), (1, 12)])⟩ := rfl
@[go_sem] theorem T_15 : T 15 = some ⟨1, 8, false, [.nilp], (.ptr 171)⟩ := rfl
@[go_sem] theorem T_16 : T 16 = some ⟨1, 8, false, [.nilp], (.ptr 174)⟩ := rfl
@[go_sem] theorem T_17 : T 17 = some ⟨1, 8, false, [.nilp], (.ptr 184)⟩ := rfl
@[go_sem] theorem T_18 : T 18 = some ⟨1, 8, true, [.nilp], (.struct [(0, 17)])⟩ := rfl
@[go_sem] theorem T_19 : T 19 = some ⟨1, 8, true, [.nilp], (.struct [(0, 17)])⟩ := rfl
@[go_sem] theorem T_20 : T 20 = some ⟨1, 16, false, [.nilif], (.iface true)⟩ := rfl
@[go_sem] theorem T_21 : T 21 = some ⟨1, 4, false, [.int .i32 0], (.int .i32)⟩ := rfl
@[go_sem] theorem T_22 : T 22 = some ⟨1, 24, false, [.nsl 7], (.slice 63)⟩ := rfl
@[go_sem] theorem T_23 : T 23 = some ⟨1, 8, false, [.nilfn], .func⟩ := rfl
@[go_sem] theorem T_24 : T 24 = some ⟨1, 24, false, [.nsl 7], (.slice 54)⟩ := rfl
@[go_sem] theorem T_25 : T 25 = some ⟨1, 24, false, [.nsl 5], (.slice 75)⟩ := rfl
@[go_sem] theorem T_26 : T 26 = some ⟨2, 48, true, [.nsl 7, .nsl 5], (.struct [(0, 24), (1, 25)])⟩ := rfl
@[go_sem] theorem T_27 : T 27 = some ⟨2, 48, true, [.nsl 7, .nsl 5], (.struct [(0, 24), (1, 25)])⟩ := rfl
@[go_sem] theorem T_28 : T 28 = some ⟨1, 8, false, [.nilfn], .func⟩ := rfl
@[go_sem] theorem T_29 : T 29 = some ⟨1, 8, false, [.nilfn], .func⟩ := rfl
@[go_sem] theorem T_30 : T 30 = some ⟨1, 8, false, [.nilfn], .func⟩ := rfl
@[go_sem] theorem T_31 : T 31 = some ⟨1, 8, false, [.nilfn], .func⟩ := rfl
@[go_sem] theorem T_32 : T 32 = some ⟨1, 8, false, [.nilfn], .func⟩ := rfl
@[go_sem] theorem T_33 : T 33 = some ⟨1, 8, false, [.nilfn], .func⟩ := rfl
@[go_sem] theorem T_34 : T 34 = some ⟨1, 8, false, [.nilfn], .func⟩ := rfl
@[go_sem] theorem T_35 : T 35 = some ⟨1, 24, false, [.nsl 5], (.slice 115)⟩ := rfl
@[go_sem] theorem T_36 : T 36 = some ⟨2, 48, true, [.nsl 7, .nsl 5], (.struct [(0, 22), (1, 35)])⟩ := rfl
@[go_sem] theorem T_37 : T 37 = some ⟨2, 48, true, [.nsl 7, .nsl 5], (.struct [(0, 22), (1, 35)])⟩ := rfl
@[go_sem] theorem T_38 : T 38 = some ⟨1, 8, false, [.nilfn], .func⟩ := rfl
@[go_sem] theorem T_40 : T 40 = some ⟨1, 8, false, [.nilfn], .func⟩ := rfl
@[go_sem] theorem T_41 : T 41 = some ⟨1, 8, false, [.nilfn], .func⟩ := rfl
@[go_sem] theorem T_42 : T 42 = some ⟨1, 8, false, [.nilfn], .func⟩ := rfl
@[go_sem] theorem T_43 : T 43 = some ⟨1, 24, false, [.nsl 1], (.slice 5)⟩ := rfl
@[go_sem] theorem T_44 : T 44 = some ⟨1, 24, false, [.nsl 5], (.slice 47)⟩ := rfl
@[go_sem] theorem T_45 : T 45 = some ⟨1, 24, false, [.nsl 1], (.slice 9)⟩ := rfl
@[go_sem] theorem T_46 : T 46 = some ⟨5, 80, true, [.int .i64 0, .int .i64 0, .str [], .nsl 5, .nsl 1], (.struct [(0, 3), (1, 3), (2, 9), (3, 44), (4, 45)])⟩ := rfl
@[go_sem] theorem T_47 : T 47 = some ⟨5, 80, true, [.int .i64 0, .int .i64 0, .str [], .nsl 5, .nsl 1], (.struct [(0, 3), (1, 3), (2, 9), (3, 44), (4, 45)])⟩ := rfl
@[go_sem] theorem T_49 : T 49 = some ⟨1, 8, false, [.nilfn], .func⟩ := rfl
@[go_sem] theorem T_51 : T 51 = some ⟨1, 8, false, [.nilfn], .func⟩ := rfl
@[go_sem] theorem T_52 : T 52 = some ⟨1, 8, false, [.nilfn], .func⟩ := rfl
@[go_sem] theorem T_53 : T 53 = some ⟨7, 104, true, [.int .i64 0, .str [], .int .i64 0, .int .i64 0, .str [], .nsl 5, .nsl 1], (.struct [(0, 3), (1, 9), (2, 47)])⟩ := rfl
@[go_sem] theorem T_54 : T 54 = some ⟨7, 104, true, [.int .i64 0, .str [], .int .i64 0, .int .i64 0, .str [], .nsl 5, .nsl 1], (.struct [(0, 3), (1, 9), (2, 47)])⟩ := rfl
@[go_sem] theorem T_55 : T 55 = some ⟨1, 8, false, [.nilfn], .func⟩ := rfl
@[go_sem] theorem T_56 : T 56 = some ⟨1, 8, false, [.nilfn], .func⟩ := rfl
@[go_sem] theorem T_57 : T 57 = some ⟨1, 8, false, [.nilfn], .func⟩ := rfl
@[go_sem] theorem T_58 : T 58 = some ⟨1, 8, false, [.nilfn], .func⟩ := rfl
@[go_sem] theorem T_59 : T 59 = some ⟨1, 24, false, [.nsl 5], (.slice 61)⟩ := rfl
@[go_sem] theorem T_60 : T 60 = some ⟨5, 80, true, [.int .i64 0, .int .i64 0, .str [], .nsl 5, .nsl 1], (.struct [(0, 3), (1, 3), (2, 9), (3, 59), (4, 45)])⟩ := rfl
@[go_sem] theorem T_61 : T 61 = some ⟨5, 80, true, [.int .i64 0, .int .i64 0, .str [], .nsl 5, .nsl 1], (.struct [(0, 3), (1, 3), (2, 9), (3, 59), (4, 45)])⟩ := rfl
@[go_sem] theorem T_62 : T 62 = some ⟨7, 104, true, [.int .i64 0, .str [], .int .i64 0, .int .i64 0, .str [], .nsl 5, .nsl 1], (.struct [(0, 3), (1, 9), (2, 61)])⟩ := rfl
@[go_sem] theorem T_63 : T 63 = some ⟨7, 104, true, [.int .i64 0, .str [], .int .i64 0, .int .i64 0, .str [], .nsl 5, .nsl 1], (.struct [(0, 3), (1, 9), (2, 61)])⟩ := rfl
@[go_sem] theorem T_64 : T 64 = some ⟨1, 8, false, [.nilfn], .func⟩ := rfl
@[go_sem] theorem T_65 : T 65 = some ⟨1, 8, false, [.nilfn], .func⟩ := rfl
@[go_sem] theorem T_66 : T 66 = some ⟨1, 8, false, [.nilfn], .func⟩ := rfl
@[go_sem] theorem T_67 : T 67 = some ⟨1, 8, false, [.nilfn], .func⟩ := rfl
@[go_sem] theorem T_68 : T 68 = some ⟨1, 8, false, [.nilfn], .func⟩ := rfl
@[go_sem] theorem T_69 : T 69 = some ⟨1, 8, false, [.nilfn], .func⟩ := rfl
@[go_sem] theorem T_70 : T 70 = some ⟨1, 8, false, [.nilfn], .func⟩ := rfl
@[go_sem] theorem T_71 : T 71 = some ⟨1, 8, false, [.nilfn], .func⟩ := rfl
@[go_sem] theorem T_72 : T 72 = some ⟨1, 8, false, [.nilfn], .func⟩ := rfl
@[go_sem] theorem T_73 : T 73 = some ⟨1, 8, false, [.nilfn], .func⟩ := rfl
@[go_sem] theorem T_74 : T 74 = some ⟨5, 72, true, [.int .i64 0, .str [], .str [], .str [], .str []], (.struct [(0, 3), (1, 9), (2, 9), (3, 9), (4, 9)])⟩ := rfl
@[go_sem] theorem T_75 : T 75 = some ⟨5, 72, true, [.int .i64 0, .str [], .str [], .str [], .str []], (.struct [(0, 3), (1, 9), (2, 9), (3, 9), (4, 9)])⟩ := rfl
@[go_sem] theorem T_77 : T 77 = some ⟨1, 8, false, [.nilfn], .func⟩ := rfl
@[go_sem] theorem T_78 : T 78 = some ⟨1, 8, false, [.nilfn], .func⟩ := rfl
@[go_sem] theorem T_79 : T 79 = some ⟨1, 8, false, [.nilfn], .func⟩ := rfl
@[go_sem] theorem T_80 : T 80 = some ⟨1, 8, false, [.nilfn], .func⟩ := rfl
@[go_sem] theorem T_81 : T 81 = some ⟨1, 8, false, [.nilfn], .func⟩ := rfl
@[go_sem] theorem T_82 : T 82 = some ⟨1, 8, false, [.nilp], (.ptr 118)⟩ := rfl
@[go_sem] theorem T_83 : T 83 = some ⟨1, 8, false, [.nilfn], .func⟩ := rfl
@[go_sem] theorem T_84 : T 84 = some ⟨1, 8, false, [.nilfn], .func⟩ := rfl
@[go_sem] theorem T_85 : T 85 = some ⟨1, 8, false, [.nilfn], .func⟩ := rfl
@[go_sem] theorem T_86 : T 86 = some ⟨1, 8, false, [.nilfn], .func⟩ := rfl
@[go_sem] theorem T_87 : T 87 = some ⟨1, 8, false, [.nilfn], .func⟩ := rfl
@[go_sem] theorem T_88 : T 88 = some ⟨1, 8, false, [.nilp], (.ptr 124)⟩ := rfl
@[go_sem] theorem T_90 : T 90 = some ⟨1, 8, false, [.nilfn], .func⟩ := rfl
@[go_sem] theorem T_91 : T 91 = some ⟨1, 8, false, [.nilfn], .func⟩ := rfl
@[go_sem] theorem T_92 : T 92 = some ⟨1, 8, false, [.nilfn], .func⟩ := rfl
@[go_sem] theorem T_93 : T 93 = some ⟨1, 8, false, [.nilp], (.ptr 47)⟩ := rfl
@[go_sem] theorem T_94 : T 94 = some ⟨1, 8, false, [.nilfn], .func⟩ := rfl
@[go_sem] theorem T_95 : T 95 = some ⟨1, 8, false, [.nilfn], .func⟩ := rfl
@[go_sem] theorem T_96 : T 96 = some ⟨1, 8, false, [.nilfn], .func⟩ := rfl
@[go_sem] theorem T_97 : T 97 = some ⟨1, 8, false, [.nilmap], (.map 105 106)⟩ := rfl
@[go_sem] theorem T_98 : T 98 = some ⟨10, 160, true, [.int .i64 0, .int .i64 0, .str [], .nsl 5, .nsl 1, .int .i64 0, .int .i64 0, .str [], .nsl 5, .nsl 1], (.struct [(0, 47), (5, 47)])⟩ := rfl
@[go_sem] theorem T_99 : T 99 = some ⟨10, 160, true, [.int .i64 0, .int .i64 0, .str [], .nsl 5, .nsl 1, .int .i64 0, .int .i64 0, .str [], .nsl 5, .nsl 1], (.struct [(0, 47), (5, 47)])⟩ := rfl
@[go_sem] theorem T_100 : T 100 = some ⟨1, 24, false, [.nsl 10], (.slice 99)⟩ := rfl
@[go_sem] theorem T_101 : T 101 = some ⟨2, 16, true, [.nilp, .int .i64 0], (.struct [(0, 93), (1, 3)])⟩ := rfl
@[go_sem] theorem T_102 : T 102 = some ⟨2, 16, true, [.nilp, .int .i64 0], (.struct [(0, 93), (1, 3)])⟩ := rfl
@[go_sem] theorem T_103 : T 103 = some ⟨1, 8, false, [.nilfn], .func⟩ := rfl
@[go_sem] theorem T_104 : T 104 = some ⟨4, 32, true, [.nilp, .int .i64 0, .nilp, .int .i64 0], (.struct [(0, 102), (2, 102)])⟩ := rfl
@[go_sem] theorem T_105 : T 105 = some ⟨4, 32, true, [.nilp, .int .i64 0, .nilp, .int .i64 0], (.struct [(0, 102), (2, 102)])⟩ := rfl
@[go_sem] theorem T_106 : T 106 = some ⟨0, 0, true, [], (.struct [])⟩ := rfl
@[go_sem] theorem T_109 : T 109 = some ⟨1, 8, false, [.nilfn], .func⟩ := rfl
@[go_sem] theorem T_110 : T 110 = some ⟨1, 8, false, [.nilfn], .func⟩ := rfl
@[go_sem] theorem T_111 : T 111 = some ⟨1, 8, false, [.nilfn], .func⟩ := rfl
@[go_sem] theorem T_112 : T 112 = some ⟨1, 8, false, [.nilfn], .func⟩ := rfl
@[go_sem] theorem T_113 : T 113 = some ⟨1, 8, false, [.nilfn], .func⟩ := rfl
@[go_sem] theorem T_114 : T 114 = some ⟨1, 8, false, [.nilfn], .func⟩ := rfl
@[go_sem] theorem T_115 : T 115 = some ⟨5, 72, true, [.int .i64 0, .str [], .str [], .str [], .str []], (.struct [(0, 3), (1, 9), (2, 9), (3, 9), (4, 9)])⟩ := rfl
@[go_sem] theorem T_116 : T 116 = some ⟨1, 8, false, [.nilfn], .func⟩ := rfl
@[go_sem] theorem T_117 : T 117 = some ⟨2, 32, true, [.nsl 1, .int .i64 0], (.struct [(0, 43), (1, 3)])⟩ := rfl
@[go_sem] theorem T_118 : T 118 = some ⟨2, 32, true, [.nsl 1, .int .i64 0], (.struct [(0, 43), (1, 3)])⟩ := rfl
@[go_sem] theorem T_119 : T 119 = some ⟨1, 8, false, [.nilfn], .func⟩ := rfl
@[go_sem] theorem T_120 : T 120 = some ⟨1, 24, false, [.nsl 1], (.slice 3)⟩ := rfl
@[go_sem] theorem T_121 : T 121 = some ⟨1, 8, false, [.nilfn], .func⟩ := rfl
@[go_sem] theorem T_122 : T 122 = some ⟨1, 8, false, [.nilfn], .func⟩ := rfl
@[go_sem] theorem T_123 : T 123 = some ⟨2, 48, true, [.nsl 1, .nsl 7], (.struct [(0, 120), (1, 24)])⟩ := rfl
@[go_sem] theorem T_124 : T 124 = some ⟨2, 48, true, [.nsl 1, .nsl 7], (.struct [(0, 120), (1, 24)])⟩ := rfl
@[go_sem] theorem T_125 : T 125 = some ⟨1, 8, false, [.nilfn], .func⟩ := rfl
@[go_sem] theorem T_126 : T 126 = some ⟨1, 8, false, [.nilfn], .func⟩ := rfl
@[go_sem] theorem T_127 : T 127 = some ⟨1, 8, false, [.nilfn], .func⟩ := rfl
@[go_sem] theorem T_128 : T 128 = some ⟨1, 16, false, [.nilif], (.iface false)⟩ := rfl
@[go_sem] theorem T_129 : T 129 = some ⟨1, 16, false, [.nilif], (.iface false)⟩ := rfl
@[go_sem] theorem T_130 : T 130 = some ⟨1, 8, false, [.nilfn], .func⟩ := rfl
@[go_sem] theorem T_131 : T 131 = some ⟨1, 16, false, [.str []], .str⟩ := rfl
@[go_sem] theorem T_132 : T 132 = some ⟨1, 16, false, [.str []], .str⟩ := rfl
@[go_sem] theorem T_133 : T 133 = some ⟨1, 8, false, [.nilfn], .func⟩ := rfl
@[go_sem] theorem T_134 : T 134 = some ⟨1, 8, false, [.nilfn], .func⟩ := rfl
@[go_sem] theorem T_135 : T 135 = some ⟨1, 8, false, [.nilfn], .func⟩ := rfl
@[go_sem] theorem T_136 : T 136 = some ⟨1, 8, false, [.nilfn], .func⟩ := rfl
@[go_sem] theorem T_137 : T 137 = some ⟨1, 8, false, [.nilfn], .func⟩ := rfl
@[go_sem] theorem T_138 : T 138 = some ⟨1, 8, false, [.nilfn], .func⟩ := rfl
@[go_sem] theorem T_139 : T 139 = some ⟨1, 8, false, [.nilfn], .func⟩ := rfl
@[go_sem] theorem T_140 : T 140 = some ⟨1, 8, false, [.nilfn], .func⟩ := rfl
@[go_sem] theorem T_141 : T 141 = some ⟨1, 8, false, [.nilfn], .func⟩ := rfl
@[go_sem] theorem T_142 : T 142 = some ⟨1, 8, false, [.nilfn], .func⟩ := rfl
@[go_sem] theorem T_143 : T 143 = some ⟨1, 8, false, [.nilfn], .func⟩ := rfl
@[go_sem] theorem T_144 : T 144 = some ⟨1, 8, false, [.nilfn], .func⟩ := rfl
@[go_sem] theorem T_145 : T 145 = some ⟨1, 8, false, [.nilfn], .func⟩ := rfl
@[go_sem] theorem T_146 : T 146 = some ⟨0, 0, true, [], (.struct [])⟩ := rfl
@[go_sem] theorem T_147 : T 147 = some ⟨1, 1, false, [.bool false], .bool⟩ := rfl
@[go_sem] theorem T_148 : T 148 = some ⟨1, 8, false, [.int .i64 0], (.int .i64)⟩ := rfl
@[go_sem] theorem T_149 : T 149 = some ⟨1, 16, false, [.str []], .str⟩ := rfl
@[go_sem] theorem T_150 : T 150 = some ⟨1, 24, false, [.nsl 5], (.slice 47)⟩ := rfl
@[go_sem] theorem T_151 : T 151 = some ⟨2, 48, true, [.nsl 1, .nsl 5], (.struct [(0, 45), (1, 44)])⟩ := rfl
@[go_sem] theorem T_152 : T 152 = some ⟨2, 48, true, [.nsl 1, .nsl 5], (.struct [(0, 45), (1, 44)])⟩ := rfl
@[go_sem] theorem T_153 : T 153 = some ⟨1, 8, false, [.nilp], (.ptr 155)⟩ := rfl
@[go_sem] theorem T_154 : T 154 = some ⟨4, 48, true, [.nilp, .int .i64 0, .nsl 5, .nilp], (.struct [(0, 102), (2, 44), (3, 153)])⟩ := rfl
@[go_sem] theorem T_155 : T 155 = some ⟨4, 48, true, [.nilp, .int .i64 0, .nsl 5, .nilp], (.struct [(0, 102), (2, 44), (3, 153)])⟩ := rfl
@[go_sem] theorem T_157 : T 157 = some ⟨1, 8, false, [.nilfn], .func⟩ := rfl
@[go_sem] theorem T_159 : T 159 = some ⟨1, 8, false, [.nilfn], .func⟩ := rfl
@[go_sem] theorem T_160 : T 160 = some ⟨1, 8, false, [.nilfn], .func⟩ := rfl
@[go_sem] theorem T_162 : T 162 = some ⟨1, 8, false, [.nilfn], .func⟩ := rfl
@[go_sem] theorem T_163 : T 163 = some ⟨1, 8, false, [.nilfn], .func⟩ := rfl
@[go_sem] theorem T_165 : T 165 = some ⟨1, 8, false, [.nilfn], .func⟩ := rfl
@[go_sem] theorem T_167 : T 167 = some ⟨1, 8, false, [.nilfn], .func⟩ := rfl
@[go_sem] theorem T_168 : T 168 = some ⟨1, 8, false, [.nilfn], .func⟩ := rfl
@[go_sem] theorem T_169 : T 169 = some ⟨1, 8, false, [.nilfn], .func⟩ := rfl
@[go_sem] theorem T_170 : T 170 = some ⟨4, 40, true, [.nilp, .nilp, .nilp, .str []], (.struct [(0, 17), (1, 17), (2, 17), (3, 9)])⟩ := rfl
@[go_sem] theorem T_171 : T 171 = some ⟨4, 40, true, [.nilp, .nilp, .nilp, .str []], (.struct [(0, 17), (1, 17), (2, 17), (3, 9)])⟩ := rfl
@[go_sem] theorem T_172 : T 172 = some ⟨0, 0, true, [], (.array 0 16)⟩ := rfl
@[go_sem] theorem T_173 : T 173 = some ⟨0, 0, true, [], (.struct [(0, 172)])⟩ := rfl
@[go_sem] theorem T_174 : T 174 = some ⟨0, 0, true, [], (.struct [(0, 172)])⟩ := rfl
@[go_sem] theorem T_175 : T 175 = some ⟨1, 8, false, [.nilfn], .func⟩ := rfl
@[go_sem] theorem T_176 : T 176 = some ⟨1, 4, false, [.int .u32 0], (.int .u32)⟩ := rfl
@[go_sem] theorem T_177 : T 177 = some ⟨1, 1, false, [.int .u8 0], (.int .u8)⟩ := rfl
@[go_sem] theorem T_178 : T 178 = some ⟨1, 1, false, [.int .u8 0], (.int .u8)⟩ := rfl
@[go_sem] theorem T_179 : T 179 = some ⟨1, 8, false, [.nilfn], .func⟩ := rfl
@[go_sem] theorem T_180 : T 180 = some ⟨1, 8, false, [.nilp], (.ptr 5)⟩ := rfl
@[go_sem] theorem T_181 : T 181 = some ⟨1, 4, false, [.int .i32 0], (.int .i32)⟩ := rfl
@[go_sem] theorem T_182 : T 182 = some ⟨1, 4, false, [.int .i32 0], (.int .i32)⟩ := rfl
@[go_sem] theorem T_183 : T 183 = some ⟨11, 48, true, [.int .u64 0, .int .u64 0, .int .u32 0, .int .u8 0, .int .u8 0, .int .u8 0, .int .u8 0, .nilfn, .nilp, .int .i32 0, .int .i32 0], (.struct [(0, 12), (1, 12), (2, 176), (3, 177), (4, 5), (5, 5), (6, 178), (7, 179), (8, 180), (9, 181), (10, 182)])⟩ := rfl
@[go_sem] theorem T_184 : T 184 = some ⟨11, 48, true, [.int .u64 0, .int .u64 0, .int .u32 0, .int .u8 0, .int .u8 0, .int .u8 0, .int .u8 0, .nilfn, .nilp, .int .i32 0, .int .i32 0], (.struct [(0, 12), (1, 12), (2, 176), (3, 177), (4, 5), (5, 5), (6, 178), (7, 179), (8, 180), (9, 181), (10, 182)])⟩ := rfl
end Go.Av
namespace Go.Av
open Go
theorem ok_3 : FnOK P 3 Go.Proofs.Try.f3 (Go.Proofs.Try.f3.body.getD .skip) := ⟨by kernel_rfl, by kernel_rfl, by kernel_rfl⟩
theorem ok_4 : FnOK P 4 Go.Proofs.Try.f4 (Go.Proofs.Try.f4.body.getD .skip) := ⟨by kernel_rfl, by kernel_rfl, by kernel_rfl⟩
theorem ok_5 : FnOK P 5 Go.Proofs.Try.f5 (Go.Proofs.Try.f5.body.getD .skip) := ⟨by kernel_rfl, by kernel_rfl, by kernel_rfl⟩
theorem ok_6 : FnOK P 6 Go.Proofs.Try.f6 (Go.Proofs.Try.f6.body.getD .skip) := ⟨by kernel_rfl, by kernel_rfl, by kernel_rfl⟩
theorem ok_7 : FnOK P 7 Go.Proofs.Try.f7 (Go.Proofs.Try.f7.body.getD .skip) := ⟨by kernel_rfl, by kernel_rfl, by kernel_rfl⟩
theorem ok_8 : FnOK P 8 Go.Proofs.Try.f8 (Go.Proofs.Try.f8.body.getD .skip) := ⟨by kernel_rfl, by kernel_rfl, by kernel_rfl⟩
theorem ok_9 : FnOK P 9 Go.Proofs.Try.f9 (Go.Proofs.Try.f9.body.getD .skip) := ⟨by kernel_rfl, by kernel_rfl, by kernel_rfl⟩
theorem ok_10 : FnOK P 10 Go.Proofs.Try.f10 (Go.Proofs.Try.f10.body.getD .skip) := ⟨by kernel_rfl, by kernel_rfl, by kernel_rfl⟩
theorem ok_11 : FnOK P 11 Go.Proofs.Try.f11 (Go.Proofs.Try.f11.body.getD .skip) := ⟨by kernel_rfl, by kernel_rfl, by kernel_rfl⟩
theorem ok_12 : FnOK P 12 Go.Proofs.Try.f12 (Go.Proofs.Try.f12.body.getD .skip) := ⟨by kernel_rfl, by kernel_rfl, by kernel_rfl⟩
theorem ok_13 : FnOK P 13 Go.Proofs.Try.f13 (Go.Proofs.Try.f13.body.getD .skip) := ⟨by kernel_rfl, by kernel_rfl, by kernel_rfl⟩
theorem ok_14 : FnOK P 14 Go.Proofs.Try.f14 (Go.Proofs.Try.f14.body.getD .skip) := ⟨by kernel_rfl, by kernel_rfl, by kernel_rfl⟩
theorem ok_15 : FnOK P 15 Go.Proofs.Try.f15 (Go.Proofs.Try.f15.body.getD .skip) := ⟨by kernel_rfl, by kernel_rfl, by kernel_rfl⟩
theorem ok_16 : FnOK P 16 Go.Proofs.Try.f16 (Go.Proofs.Try.f16.body.getD .skip) := ⟨by kernel_rfl, by kernel_rfl, by kernel_rfl⟩
theorem ok_17 : FnOK P 17 Go.Proofs.Try.f17 (Go.Proofs.Try.f17.body.getD .skip) := ⟨by kernel_rfl, by kernel_rfl, by kernel_rfl⟩
theorem ok_18 : FnOK P 18 Go.Proofs.Try.f18 (Go.Proofs.Try.f18.body.getD .skip) := ⟨by kernel_rfl, by kernel_rfl, by kernel_rfl⟩
theorem ok_19 : FnOK P 19 Go.Proofs.Try.f19 (Go.Proofs.Try.f19.body.getD .skip) := ⟨by kernel_rfl, by kernel_rfl, by kernel_rfl⟩
theorem ok_20 : FnOK P 20 Go.Proofs.Try.f20 (Go.Proofs.Try.f20.body.getD .skip) := ⟨by kernel_rfl, by kernel_rfl, by kernel_rfl⟩
theorem ok_21 : FnOK P 21 Go.Proofs.Try.f21 (Go.Proofs.Try.f21.body.getD .skip) := ⟨by kernel_rfl, by kernel_rfl, by kernel_rfl⟩
theorem ok_22 : FnOK P 22 Go.Proofs.Try.f22 (Go.Proofs.Try.f22.body.getD .skip) := ⟨by kernel_rfl, by kernel_rfl, by kernel_rfl⟩
theorem ok_23 : FnOK P 23 Go.Proofs.Try.f23 (Go.Proofs.Try.f23.body.getD .skip) := ⟨by kernel_rfl, by kernel_rfl, by kernel_rfl⟩
theorem ok_24 : FnOK P 24 Go.Proofs.Try.f24 (Go.Proofs.Try.f24.body.getD .skip) := ⟨by kernel_rfl, by kernel_rfl, by kernel_rfl⟩
theorem ok_25 : FnOK P 25 Go.Proofs.Try.f25 (Go.Proofs.Try.f25.body.getD .skip) := ⟨by kernel_rfl, by kernel_rfl, by kernel_rfl⟩
theorem ok_26 : FnOK P 26 Go.Proofs.Try.f26 (Go.Proofs.Try.f26.body.getD .skip) := ⟨by kernel_rfl, by kernel_rfl, by kernel_rfl⟩
theorem ok_27 : FnOK P 27 Go.Proofs.Try.f27 (Go.Proofs.Try.f27.body.getD .skip) := ⟨by kernel_rfl, by kernel_rfl, by kernel_rfl⟩
theorem ok_28 : FnOK P 28 Go.Proofs.Try.f28 (Go.Proofs.Try.f28.body.getD .skip) := ⟨by kernel_rfl, by kernel_rfl, by kernel_rfl⟩
theorem ok_29 : FnOK P 29 Go.Proofs.Try.f29 (Go.Proofs.Try.f29.body.getD .skip) := ⟨by kernel_rfl, by kernel_rfl, by kernel_rfl⟩
theorem ok_30 : FnOK P 30 Go.Proofs.Try.f30 (Go.Proofs.Try.f30.body.getD .skip) := ⟨by kernel_rfl, by kernel_rfl, by kernel_rfl⟩
theorem ok_31 : FnOK P 31 Go.Proofs.Try.f31 (Go.Proofs.Try.f31.body.getD .skip) := ⟨by kernel_rfl, by kernel_rfl, by kernel_rfl⟩
theorem ok_32 : FnOK P 32 Go.Proofs.Try.f32 (Go.Proofs.Try.f32.body.getD .skip) := ⟨by kernel_rfl, by kernel_rfl, by kernel_rfl⟩
theorem ok_33 : FnOK P 33 Go.Proofs.Try.f33 (Go.Proofs.Try.f33.body.getD .skip) := ⟨by kernel_rfl, by kernel_rfl, by kernel_rfl⟩
theorem ok_34 : FnOK P 34 Go.Proofs.Try.f34 (Go.Proofs.Try.f34.body.getD .skip) := ⟨by kernel_rfl, by kernel_rfl, by kernel_rfl⟩
theorem ok_35 : FnOK P 35 Go.Proofs.Try.f35 (Go.Proofs.Try.f35.body.getD .skip) := ⟨by kernel_rfl, by kernel_rfl, by kernel_rfl⟩
theorem ok_36 : FnOK P 36 Go.Proofs.Try.f36 (Go.Proofs.Try.f36.body.getD .skip) := ⟨by kernel_rfl, by kernel_rfl, by kernel_rfl⟩
theorem ok_37 : FnOK P 37 Go.Proofs.Try.f37 (Go.Proofs.Try.f37.body.getD .skip) := ⟨by kernel_rfl, by kernel_rfl, by kernel_rfl⟩
theorem ok_38 : FnOK P 38 Go.Proofs.Try.f38 (Go.Proofs.Try.f38.body.getD .skip) := ⟨by kernel_rfl, by kernel_rfl, by kernel_rfl⟩
theorem ok_39 : FnOK P 39 Go.Proofs.Try.f39 (Go.Proofs.Try.f39.body.getD .skip) := ⟨by kernel_rfl, by kernel_rfl, by kernel_rfl⟩
theorem ok_40 : FnOK P 40 Go.Proofs.Try.f40 (Go.Proofs.Try.f40.body.getD .skip) := ⟨by kernel_rfl, by kernel_rfl, by kernel_rfl⟩
theorem ok_41 : FnOK P 41 Go.Proofs.Try.f41 (Go.Proofs.Try.f41.body.getD .skip) := ⟨by kernel_rfl, by kernel_rfl, by kernel_rfl⟩
theorem ok_42 : FnOK P 42 Go.Proofs.Try.f42 (Go.Proofs.Try.f42.body.getD .skip) := ⟨by kernel_rfl, by kernel_rfl, by kernel_rfl⟩
theorem ok_43 : FnOK P 43 Go.Proofs.Try.f43 (Go.Proofs.Try.f43.body.getD .skip) := ⟨by kernel_rfl, by kernel_rfl, by kernel_rfl⟩
theorem ok_44 : FnOK P 44 Go.Proofs.Try.f44 (Go.Proofs.Try.f44.body.getD .skip) := ⟨by kernel_rfl, by kernel_rfl, by kernel_rfl⟩
theorem ok_45 : FnOK P 45 Go.Proofs.Try.f45 (Go.Proofs.Try.f45.body.getD .skip) := ⟨by kernel_rfl, by kernel_rfl, by kernel_rfl⟩
theorem ok_46 : FnOK P 46 Go.Proofs.Try.f46 (Go.Proofs.Try.f46.body.getD .skip) := ⟨by kernel_rfl, by kernel_rfl, by kernel_rfl⟩
theorem ok_47 : FnOK P 47 Go.Proofs.Try.f47 (Go.Proofs.Try.f47.body.getD .skip) := ⟨by kernel_rfl, by kernel_rfl, by kernel_rfl⟩
theorem ok_48 : FnOK P 48 Go.Proofs.Try.f48 (Go.Proofs.Try.f48.body.getD .skip) := ⟨by kernel_rfl, by kernel_rfl, by kernel_rfl⟩
theorem ok_49 : FnOK P 49 Go.Proofs.Try.f49 (Go.Proofs.Try.f49.body.getD .skip) := ⟨by kernel_rfl, by kernel_rfl, by kernel_rfl⟩
theorem ok_50 : FnOK P 50 Go.Proofs.Try.f50 (Go.Proofs.Try.f50.body.getD .skip) := ⟨by kernel_rfl, by kernel_rfl, by kernel_rfl⟩
theorem ok_51 : FnOK P 51 Go.Proofs.Try.f51 (Go.Proofs.Try.f51.body.getD .skip) := ⟨by kernel_rfl, by kernel_rfl, by kernel_rfl⟩
theorem ok_52 : FnOK P 52 Go.Proofs.Try.f52 (Go.Proofs.Try.f52.body.getD .skip) := ⟨by kernel_rfl, by kernel_rfl, by kernel_rfl⟩
theorem ok_53 : FnOK P 53 Go.Proofs.Try.f53 (Go.Proofs.Try.f53.body.getD .skip) := ⟨by kernel_rfl, by kernel_rfl, by kernel_rfl⟩
theorem ok_54 : FnOK P 54 Go.Proofs.Try.f54 (Go.Proofs.Try.f54.body.getD .skip) := ⟨by kernel_rfl, by kernel_rfl, by kernel_rfl⟩
theorem ok_55 : FnOK P 55 Go.Proofs.Try.f55 (Go.Proofs.Try.f55.body.getD .skip) := ⟨by kernel_rfl, by kernel_rfl, by kernel_rfl⟩
theorem ok_56 : FnOK P 56 Go.Proofs.Try.f56 (Go.Proofs.Try.f56.body.getD .skip) := ⟨by kernel_rfl, by kernel_rfl, by kernel_rfl⟩
theorem ok_57 : FnOK P 57 Go.Proofs.Try.f57 (Go.Proofs.Try.f57.body.getD .skip) := ⟨by kernel_rfl, by kernel_rfl, by kernel_rfl⟩
theorem ok_58 : FnOK P 58 Go.Proofs.Try.f58 (Go.Proofs.Try.f58.body.getD .skip) := ⟨by kernel_rfl, by kernel_rfl, by kernel_rfl⟩
theorem ok_59 : FnOK P 59 Go.Proofs.Try.f59 (Go.Proofs.Try.f59.body.getD .skip) := ⟨by kernel_rfl, by kernel_rfl, by kernel_rfl⟩
theorem ok_60 : FnOK P 60 Go.Proofs.Try.f60 (Go.Proofs.Try.f60.body.getD .skip) := ⟨by kernel_rfl, by kernel_rfl, by kernel_rfl⟩
theorem ok_61 : FnOK P 61 Go.Proofs.Try.f61 (Go.Proofs.Try.f61.body.getD .skip) := ⟨by kernel_rfl, by kernel_rfl, by kernel_rfl⟩
theorem ok_62 : FnOK P 62 Go.Proofs.Try.f62 (Go.Proofs.Try.f62.body.getD .skip) := ⟨by kernel_rfl, by kernel_rfl, by kernel_rfl⟩
theorem ok_63 : FnOK P 63 Go.Proofs.Try.f63 (Go.Proofs.Try.f63.body.getD .skip) := ⟨by kernel_rfl, by kernel_rfl, by kernel_rfl⟩
theorem ok_64 : FnOK P 64 Go.Proofs.Try.f64 (Go.Proofs.Try.f64.body.getD .skip) := ⟨by kernel_rfl, by kernel_rfl, by kernel_rfl⟩
theorem ok_65 : FnOK P 65 Go.Proofs.Try.f65 (Go.Proofs.Try.f65.body.getD .skip) := ⟨by kernel_rfl, by kernel_rfl, by kernel_rfl⟩
theorem ok_66 : FnOK P 66 Go.Proofs.Try.f66 (Go.Proofs.Try.f66.body.getD .skip) := ⟨by kernel_rfl, by kernel_rfl, by kernel_rfl⟩
theorem ok_67 : FnOK P 67 Go.Proofs.Try.f67 (Go.Proofs.Try.f67.body.getD .skip) := ⟨by kernel_rfl, by kernel_rfl, by kernel_rfl⟩
theorem ok_68 : FnOK P 68 Go.Proofs.Try.f68 (Go.Proofs.Try.f68.body.getD .skip) := ⟨by kernel_rfl, by kernel_rfl, by kernel_rfl⟩
theorem ok_69 : FnOK P 69 Go.Proofs.Try.f69 (Go.Proofs.Try.f69.body.getD .skip) := ⟨by kernel_rfl, by kernel_rfl, by kernel_rfl⟩
theorem ok_70 : FnOK P 70 Go.Proofs.Try.f70 (Go.Proofs.Try.f70.body.getD .skip) := ⟨by kernel_rfl, by kernel_rfl, by kernel_rfl⟩
theorem ok_71 : FnOK P 71 Go.Proofs.Try.f71 (Go.Proofs.Try.f71.body.getD .skip) := ⟨by kernel_rfl, by kernel_rfl, by kernel_rfl⟩
theorem ok_72 : FnOK P 72 Go.Proofs.Try.f72 (Go.Proofs.Try.f72.body.getD .skip) := ⟨by kernel_rfl, by kernel_rfl, by kernel_rfl⟩
theorem ok_73 : FnOK P 73 Go.Proofs.Try.f73 (Go.Proofs.Try.f73.body.getD .skip) := ⟨by kernel_rfl, by kernel_rfl, by kernel_rfl⟩
theorem ok_74 : FnOK P 74 Go.Proofs.Try.f74 (Go.Proofs.Try.f74.body.getD .skip) := ⟨by kernel_rfl, by kernel_rfl, by kernel_rfl⟩
theorem ok_75 : FnOK P 75 Go.Proofs.Try.f75 (Go.Proofs.Try.f75.body.getD .skip) := ⟨by kernel_rfl, by kernel_rfl, by kernel_rfl⟩
theorem ok_76 : FnOK P 76 Go.Proofs.Try.f76 (Go.Proofs.Try.f76.body.getD .skip) := ⟨by kernel_rfl, by kernel_rfl, by kernel_rfl⟩
theorem ok_77 : FnOK P 77 Go.Proofs.Try.f77 (Go.Proofs.Try.f77.body.getD .skip) := ⟨by kernel_rfl, by kernel_rfl, by kernel_rfl⟩
theorem ok_78 : FnOK P 78 Go.Proofs.Try.f78 (Go.Proofs.Try.f78.body.getD .skip) := ⟨by kernel_rfl, by kernel_rfl, by kernel_rfl⟩
theorem ok_79 : FnOK P 79 Go.Proofs.Try.f79 (Go.Proofs.Try.f79.body.getD .skip) := ⟨by kernel_rfl, by kernel_rfl, by kernel_rfl⟩
theorem ok_80 : FnOK P 80 Go.Proofs.Try.f80 (Go.Proofs.Try.f80.body.getD .skip) := ⟨by kernel_rfl, by kernel_rfl, by kernel_rfl⟩
theorem ok_81 : FnOK P 81 Go.Proofs.Try.f81 (Go.Proofs.Try.f81.body.getD .skip) := ⟨by kernel_rfl, by kernel_rfl, by kernel_rfl⟩
theorem ok_82 : FnOK P 82 Go.Proofs.Try.f82 (Go.Proofs.Try.f82.body.getD .skip) := ⟨by kernel_rfl, by kernel_rfl, by kernel_rfl⟩
theorem ok_83 : FnOK P 83 Go.Proofs.Try.f83 (Go.Proofs.Try.f83.body.getD .skip) := ⟨by kernel_rfl, by kernel_rfl, by kernel_rfl⟩
theorem ok_84 : FnOK P 84 Go.Proofs.Try.f84 (Go.Proofs.Try.f84.body.getD .skip) := ⟨by kernel_rfl, by kernel_rfl, by kernel_rfl⟩
theorem ok_85 : FnOK P 85 Go.Proofs.Try.f85 (Go.Proofs.Try.f85.body.getD .skip) := ⟨by kernel_rfl, by kernel_rfl, by kernel_rfl⟩
theorem ok_86 : FnOK P 86 Go.Proofs.Try.f86 (Go.Proofs.Try.f86.body.getD .skip) := ⟨by kernel_rfl, by kernel_rfl, by kernel_rfl⟩
theorem ok_87 : FnOK P 87 Go.Proofs.Try.f87 (Go.Proofs.Try.f87.body.getD .skip) := ⟨by kernel_rfl, by kernel_rfl, by kernel_rfl⟩
theorem ok_88 : FnOK P 88 Go.Proofs.Try.f88 (Go.Proofs.Try.f88.body.getD .skip) := ⟨by kernel_rfl, by kernel_rfl, by kernel_rfl⟩
theorem ok_89 : FnOK P 89 Go.Proofs.Try.f89 (Go.Proofs.Try.f89.body.getD .skip) := ⟨by kernel_rfl, by kernel_rfl, by kernel_rfl⟩
theorem ok_90 : FnOK P 90 Go.Proofs.Try.f90 (Go.Proofs.Try.f90.body.getD .skip) := ⟨by kernel_rfl, by kernel_rfl, by kernel_rfl⟩
theorem ok_91 : FnOK P 91 Go.Proofs.Try.f91 (Go.Proofs.Try.f91.body.getD .skip) := ⟨by kernel_rfl, by kernel_rfl, by kernel_rfl⟩
theorem ok_92 : FnOK P 92 Go.Proofs.Try.f92 (Go.Proofs.Try.f92.body.getD .skip) := ⟨by kernel_rfl, by kernel_rfl, by kernel_rfl⟩
theorem ok_93 : FnOK P 93 Go.Proofs.Try.f93 (Go.Proofs.Try.f93.body.getD .skip) := ⟨by kernel_rfl, by kernel_rfl, by kernel_rfl⟩
theorem ok_94 : FnOK P 94 Go.Proofs.Try.f94 (Go.Proofs.Try.f94.body.getD .skip) := ⟨by kernel_rfl, by kernel_rfl, by kernel_rfl⟩
theorem ok_95 : FnOK P 95 Go.Proofs.Try.f95 (Go.Proofs.Try.f95.body.getD .skip) := ⟨by kernel_rfl, by kernel_rfl, by kernel_rfl⟩
theorem ok_96 : FnOK P 96 Go.Proofs.Try.f96 (Go.Proofs.Try.f96.body.getD .skip) := ⟨by kernel_rfl, by kernel_rfl, by kernel_rfl⟩
theorem ok_97 : FnOK P 97 Go.Proofs.Try.f97 (Go.Proofs.Try.f97.body.getD .skip) := ⟨by kernel_rfl, by kernel_rfl, by kernel_rfl⟩
theorem ok_98 : FnOK P 98 Go.Proofs.Try.f98 (Go.Proofs.Try.f98.body.getD .skip) := ⟨by kernel_rfl, by kernel_rfl, by kernel_rfl⟩
theorem ok_99 : FnOK P 99 Go.Proofs.Try.f99 (Go.Proofs.Try.f99.body.getD .skip) := ⟨by kernel_rfl, by kernel_rfl, by kernel_rfl⟩
theorem ok_100 : FnOK P 100 Go.Proofs.Try.f100 (Go.Proofs.Try.f100.body.getD .skip) := ⟨by kernel_rfl, by kernel_rfl, by kernel_rfl⟩
theorem ok_101 : FnOK P 101 Go.Proofs.Try.f101 (Go.Proofs.Try.f101.body.getD .skip) := ⟨by kernel_rfl, by kernel_rfl, by kernel_rfl⟩
theorem ok_102 : FnOK P 102 Go.Proofs.Try.f102 (Go.Proofs.Try.f102.body.getD .skip) := ⟨by kernel_rfl, by kernel_rfl, by kernel_rfl⟩
theorem ok_103 : FnOK P 103 Go.Proofs.Try.f103 (Go.Proofs.Try.f103.body.getD .skip) := ⟨by kernel_rfl, by kernel_rfl, by kernel_rfl⟩
theorem ok_104 : FnOK P 104 Go.Proofs.Try.f104 (Go.Proofs.Try.f104.body.getD .skip) := ⟨by kernel_rfl, by kernel_rfl, by kernel_rfl⟩
theorem ok_105 : FnOK P 105 Go.Proofs.Try.f105 (Go.Proofs.Try.f105.body.getD .skip) := ⟨by kernel_rfl, by kernel_rfl, by kernel_rfl⟩
theorem ok_106 : FnOK P 106 Go.Proofs.Try.f106 (Go.Proofs.Try.f106.body.getD .skip) := ⟨by kernel_rfl, by kernel_rfl, by kernel_rfl⟩
theorem ok_107 : FnOK P 107 Go.Proofs.Try.f107 (Go.Proofs.Try.f107.body.getD .skip) := ⟨by kernel_rfl, by kernel_rfl, by kernel_rfl⟩
theorem ok_108 : FnOK P 108 Go.Proofs.Try.f108 (Go.Proofs.Try.f108.body.getD .skip) := ⟨by kernel_rfl, by kernel_rfl, by kernel_rfl⟩
theorem ok_109 : FnOK P 109 Go.Proofs.Try.f109 (Go.Proofs.Try.f109.body.getD .skip) := ⟨by kernel_rfl, by kernel_rfl, by kernel_rfl⟩
theorem ok_110 : FnOK P 110 Go.Proofs.Try.f110 (Go.Proofs.Try.f110.body.getD .skip) := ⟨by kernel_rfl, by kernel_rfl, by kernel_rfl⟩
theorem ok_111 : FnOK P 111 Go.Proofs.Try.f111 (Go.Proofs.Try.f111.body.getD .skip) := ⟨by kernel_rfl, by kernel_rfl, by kernel_rfl⟩
theorem ok_112 : FnOK P 112 Go.Proofs.Try.f112 (Go.Proofs.Try.f112.body.getD .skip) := ⟨by kernel_rfl, by kernel_rfl, by kernel_rfl⟩
theorem ok_113 : FnOK P 113 Go.Proofs.Try.f113 (Go.Proofs.Try.f113.body.getD .skip) := ⟨by kernel_rfl, by kernel_rfl, by kernel_rfl⟩
theorem ok_114 : FnOK P 114 Go.Proofs.Try.f114 (Go.Proofs.Try.f114.body.getD .skip) := ⟨by kernel_rfl, by kernel_rfl, by kernel_rfl⟩
end Go.Av
set_option linter.unusedVariables false
set_option linter.unusedSimpArgs false
namespace Go.Av
open Go

/-- a value as a tree -/
inductive GV where
  | mk (k n : Int) (t : List UInt8) (l : List GV) (ns : List (List UInt8))

def strs (l : List (List UInt8)) : List (List AV) := l.map fun s => [.str s]
mutual
def GV.enc : GV → List AV
  | ⟨k, n, t, l, ns⟩ => [.int .i64 k, .int .i64 n, .str t, .fsl 5 (encs l), .fsl 1 (strs ns)]
def encs : List GV → List (List AV)
  | [] => []
  | v :: r => v.enc :: encs r
end
mutual
def GV.size : GV → Nat
  | ⟨_, _, _, l, _⟩ => 1 + sizes l
def sizes : List GV → Nat
  | [] => 1
  | v :: r => v.size + sizes r
end
abbrev I64 (x : Int) : Prop := -9223372036854775808 ≤ x ∧ x ≤ 9223372036854775807
/-- lengths that stay within the bounds of a claim -/
abbrev Len {α : Type} (l : List α) : Prop := (l.length : Int) ≤ 1048576
mutual
def GV.fits : GV → Prop
  | ⟨k, n, t, l, ns⟩ => I64 k ∧ I64 n ∧ Len t ∧ Len l ∧ fitss l ∧ Len ns ∧ ∀ s ∈ ns, Len s
def fitss : List GV → Prop
  | [] => True
  | v :: r => v.fits ∧ fitss r
end

theorem strs_len (xs : List (List UInt8)) : (strs xs).length = xs.length := by simp [strs]
theorem strs_get {xs : List (List UInt8)} {i : Nat} (h : i < xs.length) : (strs xs).getD i [] = [.str (xs.getD i [])] := by
  simp [strs, List.getD_eq_getElem?_getD, h]
theorem encs_eq : ∀ l : List GV, encs l = l.map GV.enc
  | [] => rfl
  | v :: r => by simp [encs, encs_eq r]
theorem encs_len (l : List GV) : (encs l).length = l.length := by simp [encs_eq]
theorem enc_len (v : GV) : v.enc.length = 5 := by cases v; rfl
theorem enc_take (v : GV) : takeN 5 v.enc = some v.enc := by cases v; rfl
theorem enc_all (v : GV) : v.enc.all AV.isCell = true := by cases v; rfl
theorem enc_frz (v : GV) : frzL v.enc = some v.enc := by cases v; rfl
instance : Inhabited GV := ⟨.mk 0 0 [] [] []⟩
theorem encs_take {l : List GV} {i : Nat} (h : i < l.length) : encs (l.take (i + 1)) = encs (l.take i) ++ [(l.getD i default).enc] := by
  rw [List.take_succ_eq_append_getElem h, encs_eq, encs_eq, List.map_append, List.getD_eq_getElem?_getD, List.getElem?_eq_getElem h]; rfl
theorem strs_take {l : List (List UInt8)} {i : Nat} (h : i < l.length) : strs (l.take (i + 1)) = strs (l.take i) ++ [[.str (l.getD i [])]] := by
  rw [List.take_succ_eq_append_getElem h, strs, strs, List.map_append, List.getD_eq_getElem?_getD, List.getElem?_eq_getElem h]; rfl
theorem encs_get {l : List GV} {i : Nat} (h : i < l.length) : (encs l).getD i [] = (l.getD i default).enc := by
  simp [encs_eq, List.getD_eq_getElem?_getD, h]
theorem mem_getD {α : Type} {xs : List α} {i : Nat} {d : α} (h : i < xs.length) : xs.getD i d ∈ xs := by
  simp [List.getD_eq_getElem?_getD, h]
theorem fitss_mem : ∀ {l : List GV}, fitss l → ∀ v ∈ l, v.fits
  | [], _, v, h => by cases h
  | w :: r, hf, v, h => by
    cases h with
    | head => exact hf.1
    | tail _ h => exact fitss_mem hf.2 v h
theorem sizes_pos : ∀ l : List GV, 0 < sizes l
  | [] => by simp [sizes]
  | v :: r => by simp only [sizes]; have := sizes_pos r; omega
theorem sizes_mem : ∀ {l : List GV} {v : GV}, v ∈ l → v.size < sizes l
  | w :: r, v, h => by
    cases h with
    | head => simp only [sizes]; have := sizes_pos r; omega
    | tail _ h => have := sizes_mem h; simp only [sizes]; omega
theorem drop_cons {α : Type} {xs : List α} {i : Nat} (d : α) (h : i < xs.length) : xs.drop i = xs.getD i d :: xs.drop (i + 1) := by
  rw [List.drop_eq_getElem_cons h]
  simp [List.getD_eq_getElem?_getD, h]

/-! ### sizes -/
def szStrsGo : List (List UInt8) → Int → Int
  | [], l => l
  | s :: r, l => if l - s.length < 0 then -1 else szStrsGo r (l - s.length)
def szStrs (xs : List (List UInt8)) (l : Int) : Int := if l - xs.length < 0 then -1 else szStrsGo xs (l - xs.length)
theorem szStrsGo_le : ∀ {xs : List (List UInt8)} {l : Int}, 0 ≤ l → -1 ≤ szStrsGo xs l ∧ szStrsGo xs l ≤ l
  | [], l, h => by simp [szStrsGo]; omega
  | s :: r, l, h => by
    simp only [szStrsGo]
    split
    · omega
    · have := szStrsGo_le (xs := r) (l := l - s.length) (by omega); omega
theorem szStrs_le {xs : List (List UInt8)} {l : Int} (h : 0 ≤ l) : -1 ≤ szStrs xs l ∧ szStrs xs l ≤ l := by
  unfold szStrs
  split
  · omega
  · have := szStrsGo_le (xs := xs) (l := l - xs.length) (by omega); omega

set_option maxRecDepth 10000
theorem szStringS_ok (xs : List (List UInt8)) (l : Int) (h0 : 0 ≤ l) (h1 : l ≤ 1048576) (h2 : Len xs) (h3 : ∀ s ∈ xs, Len s) :
    PCall P 93 [.fsl 1 (strs xs), .int .i64 l] (.int .i64 (szStrs xs l)) := by
  refine pcall_of_fcall (fcall_walk T_ok ok_93 rfl ?_)
  unfold Go.Proofs.Try.f93
  simp only [Option.getD_some, envOf, Nat.zero_add, Nat.reduceAdd]
  repeat' (first | ((with_reducible first | apply ar_w T_ok | apply ar_w0 T_ok | apply ard_w T_ok | apply ard_w0 T_ok); (focus (simp (disch := omega) only [go_sem, Nat.reduceLT, Nat.reduceAdd, Nat.reduceLeDiff, Nat.reduceMul, Nat.reduceEqDiff, Nat.reduceBEq, reduceIte, strs_get, strs_len] <;> rfl)); (focus (first | rfl | (simp [okIdsB, Nat.ble_eq]; done))); (focus rfl); (focus (first | trivial | (simp only [preOK]; omega) | exact ⟨by first | trivial | rfl | omega, by assumption, by omega⟩ | (simp [preOK, AllBytes, strs_get, strs_len]; first | done | omega))); (focus (simp only [strs_get, strs_len, Heap.puts, Heap.put_app, Heap.put_app0, Heap.put_len, Heap.put, List.length_append, List.length_cons, List.length_nil, Nat.zero_add, Nat.reduceAdd] <;> rfl))) | with_reducible (first | refine aw_reg_d P_mixed ?_ | refine ar_done ?_ | refine aw_seq ?_ | refine aw_reg ?_ | refine aw_block ?_ | refine aw_skip ?_ | refine aw_exit ?_ | refine aw_ret ?_ | refine at_n ?_ | refine at_e ?_ | refine at_r ?_ | refine ab_n ?_ | refine ab_r ?_ | refine ab_e ?_ | refine ab_ne rfl ?_ | refine an_e ?_ | refine an_r ?_ | refine am_e ?_ | refine am_r ?_) | ((with_reducible apply aw_cond_f); (focus (simp only [go_sem, Nat.reduceLT, Nat.reduceAdd, Nat.reduceLeDiff, Nat.reduceMul, Nat.reduceEqDiff, Nat.reduceBEq, reduceIte, strs_get, strs_len] <;> rfl))) | ((with_reducible apply aw_cond_t); (focus (simp only [go_sem, Nat.reduceLT, Nat.reduceAdd, Nat.reduceLeDiff, Nat.reduceMul, Nat.reduceEqDiff, Nat.reduceBEq, reduceIte, strs_get, strs_len] <;> rfl))) | ((with_reducible apply aw_cond_d); (focus (simp only [go_sem, Nat.reduceLT, Nat.reduceAdd, Nat.reduceLeDiff, Nat.reduceMul, Nat.reduceEqDiff, Nat.reduceBEq, reduceIte, strs_get, strs_len] <;> rfl)); all_goals (intro hcond; try (exfalso; omega))) | ((with_reducible first | apply ae_r | apply ae_n); (focus (simp only [go_sem, Nat.reduceLT, Nat.reduceAdd, Nat.reduceLeDiff, Nat.reduceMul, Nat.reduceEqDiff, Nat.reduceBEq, reduceIte, strs_get, strs_len] <;> rfl))) | ((with_reducible apply ard_done); (focus rfl)))
  · simp [aresV, szStrs, hcond, frz]
  · refine aw_loopc (fun k env H => ∃ (i : Nat) (m : Int), i ≤ xs.length ∧ k = xs.length - i ∧ 0 ≤ m ∧ m ≤ l ∧ szStrsGo (xs.drop i) m = szStrs xs l ∧ H = [] ∧ env = [(0, .fsl 1 (strs xs)), (1, .int .i64 m), (5, .int .i64 i)]) xs.length
      [(0, .fsl 1 (strs xs)), (1, .int .i64 (l - xs.length)), (5, .int .i64 0)] [] (by simp [subP, Env.get, Weak.refl]) rfl trivial rfl rfl ⟨0, l - xs.length, Nat.zero_le _, rfl, by omega, by omega, by simp [szStrs, hcond], rfl, rfl⟩ ?_
    rintro k env H ⟨i, m, hi, hk, hm0, hm1, hgo, rfl, rfl⟩
    by_cases hlt : i < xs.length
    · have hb := h3 _ (mem_getD (d := []) hlt)
      rw [drop_cons [] hlt, szStrsGo] at hgo
      repeat' (first | ((with_reducible first | apply ar_w T_ok | apply ar_w0 T_ok | apply ard_w T_ok | apply ard_w0 T_ok); (focus (simp (disch := omega) only [go_sem, Nat.reduceLT, Nat.reduceAdd, Nat.reduceLeDiff, Nat.reduceMul, Nat.reduceEqDiff, Nat.reduceBEq, reduceIte, strs_get, strs_len] <;> rfl)); (focus (first | rfl | (simp [okIdsB, Nat.ble_eq]; done))); (focus rfl); (focus (first | trivial | (simp only [preOK]; omega) | exact ⟨by first | trivial | rfl | omega, by assumption, by omega⟩ | (simp [preOK, AllBytes, strs_get, strs_len]; first | done | omega))); (focus (simp only [strs_get, strs_len, Heap.puts, Heap.put_app, Heap.put_app0, Heap.put_len, Heap.put, List.length_append, List.length_cons, List.length_nil, Nat.zero_add, Nat.reduceAdd] <;> rfl))) | with_reducible (first | refine aw_reg_d P_mixed ?_ | refine ar_done ?_ | refine aw_seq ?_ | refine aw_reg ?_ | refine aw_block ?_ | refine aw_skip ?_ | refine aw_exit ?_ | refine aw_ret ?_ | refine at_n ?_ | refine at_e ?_ | refine at_r ?_ | refine ab_n ?_ | refine ab_r ?_ | refine ab_e ?_ | refine ab_ne rfl ?_ | refine an_e ?_ | refine an_r ?_ | refine am_e ?_ | refine am_r ?_) | ((with_reducible apply aw_cond_f); (focus (simp only [go_sem, Nat.reduceLT, Nat.reduceAdd, Nat.reduceLeDiff, Nat.reduceMul, Nat.reduceEqDiff, Nat.reduceBEq, reduceIte, strs_get, strs_len] <;> rfl))) | ((with_reducible apply aw_cond_t); (focus (simp only [go_sem, Nat.reduceLT, Nat.reduceAdd, Nat.reduceLeDiff, Nat.reduceMul, Nat.reduceEqDiff, Nat.reduceBEq, reduceIte, strs_get, strs_len] <;> rfl))) | ((with_reducible apply aw_cond_d); (focus (simp only [go_sem, Nat.reduceLT, Nat.reduceAdd, Nat.reduceLeDiff, Nat.reduceMul, Nat.reduceEqDiff, Nat.reduceBEq, reduceIte, strs_get, strs_len] <;> rfl)); all_goals (intro hcond; try (exfalso; omega))) | ((with_reducible first | apply ae_r | apply ae_n); (focus (simp only [go_sem, Nat.reduceLT, Nat.reduceAdd, Nat.reduceLeDiff, Nat.reduceMul, Nat.reduceEqDiff, Nat.reduceBEq, reduceIte, strs_get, strs_len] <;> rfl))) | ((with_reducible apply ard_done); (focus rfl)))
      · rw [if_pos hcond] at hgo; simp [aresV, frz, ← hgo]
      · rw [if_neg hcond] at hgo
        exact anext0 [(0, .fsl 1 (strs xs)), (1, .int .i64 (m - (xs.getD i []).length)), (5, .int .i64 (i + 1 : Nat))] [] (k' := xs.length - (i + 1)) (by omega) (by simp [subP, Env.get, Weak.refl]) rfl trivial rfl rfl
          ⟨i + 1, _, by omega, rfl, by omega, by omega, hgo, rfl, rfl⟩
    · have : i = xs.length := by omega
      subst this
      repeat' (first | ((with_reducible first | apply ar_w T_ok | apply ar_w0 T_ok | apply ard_w T_ok | apply ard_w0 T_ok); (focus (simp (disch := omega) only [go_sem, Nat.reduceLT, Nat.reduceAdd, Nat.reduceLeDiff, Nat.reduceMul, Nat.reduceEqDiff, Nat.reduceBEq, reduceIte, strs_get, strs_len] <;> rfl)); (focus (first | rfl | (simp [okIdsB, Nat.ble_eq]; done))); (focus rfl); (focus (first | trivial | (simp only [preOK]; omega) | exact ⟨by first | trivial | rfl | omega, by assumption, by omega⟩ | (simp [preOK, AllBytes, strs_get, strs_len]; first | done | omega))); (focus (simp only [strs_get, strs_len, Heap.puts, Heap.put_app, Heap.put_app0, Heap.put_len, Heap.put, List.length_append, List.length_cons, List.length_nil, Nat.zero_add, Nat.reduceAdd] <;> rfl))) | with_reducible (first | refine aw_reg_d P_mixed ?_ | refine ar_done ?_ | refine aw_seq ?_ | refine aw_reg ?_ | refine aw_block ?_ | refine aw_skip ?_ | refine aw_exit ?_ | refine aw_ret ?_ | refine at_n ?_ | refine at_e ?_ | refine at_r ?_ | refine ab_n ?_ | refine ab_r ?_ | refine ab_e ?_ | refine ab_ne rfl ?_ | refine an_e ?_ | refine an_r ?_ | refine am_e ?_ | refine am_r ?_) | ((with_reducible apply aw_cond_f); (focus (simp only [go_sem, Nat.reduceLT, Nat.reduceAdd, Nat.reduceLeDiff, Nat.reduceMul, Nat.reduceEqDiff, Nat.reduceBEq, reduceIte, strs_get, strs_len] <;> rfl))) | ((with_reducible apply aw_cond_t); (focus (simp only [go_sem, Nat.reduceLT, Nat.reduceAdd, Nat.reduceLeDiff, Nat.reduceMul, Nat.reduceEqDiff, Nat.reduceBEq, reduceIte, strs_get, strs_len] <;> rfl))) | ((with_reducible apply aw_cond_d); (focus (simp only [go_sem, Nat.reduceLT, Nat.reduceAdd, Nat.reduceLeDiff, Nat.reduceMul, Nat.reduceEqDiff, Nat.reduceBEq, reduceIte, strs_get, strs_len] <;> rfl)); all_goals (intro hcond; try (exfalso; omega))) | ((with_reducible first | apply ae_r | apply ae_n); (focus (simp only [go_sem, Nat.reduceLT, Nat.reduceAdd, Nat.reduceLeDiff, Nat.reduceMul, Nat.reduceEqDiff, Nat.reduceBEq, reduceIte, strs_get, strs_len] <;> rfl))) | ((with_reducible apply ard_done); (focus rfl)))
      simp [szStrsGo] at hgo
      simp [aresV, frz, hgo]

mutual
def szV : GV → Int → Int
  | ⟨_, _, t, l, ns⟩, x => if x - t.length < 0 then -1 else
      if (if x - t.length - l.length < 0 then -1 else szVs l (x - t.length - l.length)) < 0 then -1 else
      if szStrs ns (if x - t.length - l.length < 0 then -1 else szVs l (x - t.length - l.length)) < 0 then -1 else
        szStrs ns (if x - t.length - l.length < 0 then -1 else szVs l (x - t.length - l.length))
def szVs : List GV → Int → Int
  | [], x => x
  | v :: r, x => if szV v x < 0 then -1 else szVs r (szV v x)
end
def szVS (l : List GV) (x : Int) : Int := if x - l.length < 0 then -1 else szVs l (x - l.length)

theorem szV_eq (k n : Int) (t : List UInt8) (l : List GV) (ns : List (List UInt8)) (x : Int) : szV ⟨k, n, t, l, ns⟩ x =
    if x - t.length < 0 then -1 else if szVS l (x - t.length) < 0 then -1 else if szStrs ns (szVS l (x - t.length)) < 0 then -1 else szStrs ns (szVS l (x - t.length)) := by
  simp only [szV, szVS]; rfl

mutual
theorem szV_le : ∀ (v : GV) {x : Int}, 0 ≤ x → -1 ≤ szV v x ∧ szV v x ≤ x
  | ⟨k, n, t, l, ns⟩, x, h => by
    rw [szV_eq]
    split
    · omega
    · have h1 : -1 ≤ szVS l (x - t.length) ∧ szVS l (x - t.length) ≤ x - t.length := by
        unfold szVS
        split
        · omega
        · have := szVs_le l (x := x - t.length - l.length) (by omega); omega
      split
      · omega
      · have h2 := szStrs_le (xs := ns) (l := szVS l (x - t.length)) (by omega)
        split <;> omega
theorem szVs_le : ∀ (l : List GV) {x : Int}, 0 ≤ x → -1 ≤ szVs l x ∧ szVs l x ≤ x
  | [], x, h => by simp [szVs]; omega
  | v :: r, x, h => by
    simp only [szVs]
    have h1 := szV_le v h
    split
    · omega
    · have := szVs_le r (x := szV v x) (by omega); omega
end
theorem szVS_le (l : List GV) {x : Int} (h : 0 ≤ x) : -1 ≤ szVS l x ∧ szVS l x ≤ x := by
  unfold szVS
  split
  · omega
  · have := szVs_le l (x := x - l.length) (by omega); omega

theorem szValue_ok (v : GV) (x : Int) (h0 : 0 ≤ x) (h1 : x ≤ 1048576) (hf : v.fits)
    (ih : ∀ l y, sizes l < v.size → 0 ≤ y → y ≤ 1048576 → Len l → fitss l → PCall P 92 [.fsl 5 (encs l), .int .i64 y] (.int .i64 (szVS l y))) :
    PCall P 66 [.agg v.enc, .int .i64 x] (.int .i64 (szV v x)) := by
  obtain ⟨k, n, t, l, ns⟩ := v
  obtain ⟨f1, f2, f3, f4, f5, f6, f7⟩ := hf
  refine pcall_of_fcall (fcall_walk T_ok ok_66 rfl ?_)
  unfold Go.Proofs.Try.f66
  simp only [Option.getD_some, envOf, Nat.zero_add, Nat.reduceAdd, GV.enc]
  rw [szV_eq]
  have hl := szVS_le l (x := x - t.length)
  repeat' (first | ((with_reducible first | apply ar_w T_ok | apply ar_w0 T_ok | apply ard_w T_ok | apply ard_w0 T_ok); (focus (simp (disch := omega) only [go_sem, Nat.reduceLT, Nat.reduceAdd, Nat.reduceLeDiff, Nat.reduceMul, Nat.reduceEqDiff, Nat.reduceBEq, reduceIte, strs_get, strs_len] <;> rfl)); (focus (first | rfl | (simp [okIdsB, Nat.ble_eq]; done))); (focus rfl); (focus (first | trivial | (simp only [preOK]; omega) | exact ⟨by first | trivial | rfl | omega, by assumption, by omega⟩ | (simp [preOK, AllBytes, strs_get, strs_len]; first | done | omega))); (focus (simp only [strs_get, strs_len, Heap.puts, Heap.put_app, Heap.put_app0, Heap.put_len, Heap.put, List.length_append, List.length_cons, List.length_nil, Nat.zero_add, Nat.reduceAdd] <;> rfl))) | with_reducible (first | refine aw_reg_d P_mixed ?_ | refine ar_done ?_ | refine aw_seq ?_ | refine aw_reg ?_ | refine aw_block ?_ | refine aw_skip ?_ | refine aw_exit ?_ | refine aw_ret ?_ | refine at_n ?_ | refine at_e ?_ | refine at_r ?_ | refine ab_n ?_ | refine ab_r ?_ | refine ab_e ?_ | refine ab_ne rfl ?_ | refine an_e ?_ | refine an_r ?_ | refine am_e ?_ | refine am_r ?_) | ((with_reducible apply aw_cond_f); (focus (simp only [go_sem, Nat.reduceLT, Nat.reduceAdd, Nat.reduceLeDiff, Nat.reduceMul, Nat.reduceEqDiff, Nat.reduceBEq, reduceIte, strs_get, strs_len] <;> rfl))) | ((with_reducible apply aw_cond_t); (focus (simp only [go_sem, Nat.reduceLT, Nat.reduceAdd, Nat.reduceLeDiff, Nat.reduceMul, Nat.reduceEqDiff, Nat.reduceBEq, reduceIte, strs_get, strs_len] <;> rfl))) | ((with_reducible apply aw_cond_d); (focus (simp only [go_sem, Nat.reduceLT, Nat.reduceAdd, Nat.reduceLeDiff, Nat.reduceMul, Nat.reduceEqDiff, Nat.reduceBEq, reduceIte, strs_get, strs_len] <;> rfl)); all_goals (intro hcond; try (exfalso; omega))) | ((with_reducible first | apply ae_r | apply ae_n); (focus (simp only [go_sem, Nat.reduceLT, Nat.reduceAdd, Nat.reduceLeDiff, Nat.reduceMul, Nat.reduceEqDiff, Nat.reduceBEq, reduceIte, strs_get, strs_len] <;> rfl))) | ((with_reducible apply ard_done); (focus rfl)))
  · simp [aresV, frz, hcond]
  rw [if_neg hcond]
  ((apply ar_call rfl ok_92); (focus (simp only [go_sem, Nat.reduceLT, Nat.reduceAdd, Nat.reduceLeDiff, Nat.reduceMul, Nat.reduceEqDiff, Nat.reduceBEq, reduceIte, strs_get, strs_len, List.map] <;> rfl)); (focus exact ih l _ (by simp only [GV.size]; omega) (by omega) (by omega) f4 f5); (focus rfl); (focus rfl))
  repeat' (first | ((with_reducible first | apply ar_w T_ok | apply ar_w0 T_ok | apply ard_w T_ok | apply ard_w0 T_ok); (focus (simp (disch := omega) only [go_sem, Nat.reduceLT, Nat.reduceAdd, Nat.reduceLeDiff, Nat.reduceMul, Nat.reduceEqDiff, Nat.reduceBEq, reduceIte, strs_get, strs_len] <;> rfl)); (focus (first | rfl | (simp [okIdsB, Nat.ble_eq]; done))); (focus rfl); (focus (first | trivial | (simp only [preOK]; omega) | exact ⟨by first | trivial | rfl | omega, by assumption, by omega⟩ | (simp [preOK, AllBytes, strs_get, strs_len]; first | done | omega))); (focus (simp only [strs_get, strs_len, Heap.puts, Heap.put_app, Heap.put_app0, Heap.put_len, Heap.put, List.length_append, List.length_cons, List.length_nil, Nat.zero_add, Nat.reduceAdd] <;> rfl))) | with_reducible (first | refine aw_reg_d P_mixed ?_ | refine ar_done ?_ | refine aw_seq ?_ | refine aw_reg ?_ | refine aw_block ?_ | refine aw_skip ?_ | refine aw_exit ?_ | refine aw_ret ?_ | refine at_n ?_ | refine at_e ?_ | refine at_r ?_ | refine ab_n ?_ | refine ab_r ?_ | refine ab_e ?_ | refine ab_ne rfl ?_ | refine an_e ?_ | refine an_r ?_ | refine am_e ?_ | refine am_r ?_) | ((with_reducible apply aw_cond_f); (focus (simp only [go_sem, Nat.reduceLT, Nat.reduceAdd, Nat.reduceLeDiff, Nat.reduceMul, Nat.reduceEqDiff, Nat.reduceBEq, reduceIte, strs_get, strs_len] <;> rfl))) | ((with_reducible apply aw_cond_t); (focus (simp only [go_sem, Nat.reduceLT, Nat.reduceAdd, Nat.reduceLeDiff, Nat.reduceMul, Nat.reduceEqDiff, Nat.reduceBEq, reduceIte, strs_get, strs_len] <;> rfl))) | ((with_reducible apply aw_cond_d); (focus (simp only [go_sem, Nat.reduceLT, Nat.reduceAdd, Nat.reduceLeDiff, Nat.reduceMul, Nat.reduceEqDiff, Nat.reduceBEq, reduceIte, strs_get, strs_len] <;> rfl)); all_goals (intro hcond; try (exfalso; omega))) | ((with_reducible first | apply ae_r | apply ae_n); (focus (simp only [go_sem, Nat.reduceLT, Nat.reduceAdd, Nat.reduceLeDiff, Nat.reduceMul, Nat.reduceEqDiff, Nat.reduceBEq, reduceIte, strs_get, strs_len] <;> rfl))) | ((with_reducible apply ard_done); (focus rfl)))
  · simp [aresV, frz, hcond]
  rw [if_neg hcond]
  have hl2 := szStrs_le (xs := ns) (l := szVS l (x - t.length))
  ((apply ar_call rfl ok_93); (focus (simp only [go_sem, Nat.reduceLT, Nat.reduceAdd, Nat.reduceLeDiff, Nat.reduceMul, Nat.reduceEqDiff, Nat.reduceBEq, reduceIte, strs_get, strs_len, List.map] <;> rfl)); (focus exact szStringS_ok ns _ (by omega) (by omega) f6 f7); (focus rfl); (focus rfl))
  repeat' (first | ((with_reducible first | apply ar_w T_ok | apply ar_w0 T_ok | apply ard_w T_ok | apply ard_w0 T_ok); (focus (simp (disch := omega) only [go_sem, Nat.reduceLT, Nat.reduceAdd, Nat.reduceLeDiff, Nat.reduceMul, Nat.reduceEqDiff, Nat.reduceBEq, reduceIte, strs_get, strs_len] <;> rfl)); (focus (first | rfl | (simp [okIdsB, Nat.ble_eq]; done))); (focus rfl); (focus (first | trivial | (simp only [preOK]; omega) | exact ⟨by first | trivial | rfl | omega, by assumption, by omega⟩ | (simp [preOK, AllBytes, strs_get, strs_len]; first | done | omega))); (focus (simp only [strs_get, strs_len, Heap.puts, Heap.put_app, Heap.put_app0, Heap.put_len, Heap.put, List.length_append, List.length_cons, List.length_nil, Nat.zero_add, Nat.reduceAdd] <;> rfl))) | with_reducible (first | refine aw_reg_d P_mixed ?_ | refine ar_done ?_ | refine aw_seq ?_ | refine aw_reg ?_ | refine aw_block ?_ | refine aw_skip ?_ | refine aw_exit ?_ | refine aw_ret ?_ | refine at_n ?_ | refine at_e ?_ | refine at_r ?_ | refine ab_n ?_ | refine ab_r ?_ | refine ab_e ?_ | refine ab_ne rfl ?_ | refine an_e ?_ | refine an_r ?_ | refine am_e ?_ | refine am_r ?_) | ((with_reducible apply aw_cond_f); (focus (simp only [go_sem, Nat.reduceLT, Nat.reduceAdd, Nat.reduceLeDiff, Nat.reduceMul, Nat.reduceEqDiff, Nat.reduceBEq, reduceIte, strs_get, strs_len] <;> rfl))) | ((with_reducible apply aw_cond_t); (focus (simp only [go_sem, Nat.reduceLT, Nat.reduceAdd, Nat.reduceLeDiff, Nat.reduceMul, Nat.reduceEqDiff, Nat.reduceBEq, reduceIte, strs_get, strs_len] <;> rfl))) | ((with_reducible apply aw_cond_d); (focus (simp only [go_sem, Nat.reduceLT, Nat.reduceAdd, Nat.reduceLeDiff, Nat.reduceMul, Nat.reduceEqDiff, Nat.reduceBEq, reduceIte, strs_get, strs_len] <;> rfl)); all_goals (intro hcond; try (exfalso; omega))) | ((with_reducible first | apply ae_r | apply ae_n); (focus (simp only [go_sem, Nat.reduceLT, Nat.reduceAdd, Nat.reduceLeDiff, Nat.reduceMul, Nat.reduceEqDiff, Nat.reduceBEq, reduceIte, strs_get, strs_len] <;> rfl))) | ((with_reducible apply ard_done); (focus rfl)))
  · simp [aresV, frz, hcond]
  · simp [aresV, frz, hcond]

theorem szValueS_ok (l : List GV) (x : Int) (h0 : 0 ≤ x) (h1 : x ≤ 1048576) (h2 : Len l) (hf : fitss l)
    (ih : ∀ v y, v ∈ l → 0 ≤ y → y ≤ 1048576 → v.fits → PCall P 66 [.agg v.enc, .int .i64 y] (.int .i64 (szV v y))) :
    PCall P 92 [.fsl 5 (encs l), .int .i64 x] (.int .i64 (szVS l x)) := by
  refine pcall_of_fcall (fcall_walk T_ok ok_92 rfl ?_)
  unfold Go.Proofs.Try.f92
  simp only [Option.getD_some, envOf, Nat.zero_add, Nat.reduceAdd]
  repeat' (first | ((with_reducible first | apply ar_w T_ok | apply ar_w0 T_ok | apply ard_w T_ok | apply ard_w0 T_ok); (focus (simp (disch := omega) only [go_sem, Nat.reduceLT, Nat.reduceAdd, Nat.reduceLeDiff, Nat.reduceMul, Nat.reduceEqDiff, Nat.reduceBEq, reduceIte, encs_get, encs_len, enc_len, enc_take, enc_frz] <;> rfl)); (focus (first | rfl | (simp [okIdsB, Nat.ble_eq]; done))); (focus rfl); (focus (first | trivial | (simp only [preOK]; omega) | exact ⟨by first | trivial | rfl | omega, by assumption, by omega⟩ | (simp [preOK, AllBytes, encs_get, encs_len, enc_len, enc_take, enc_frz]; first | done | omega))); (focus (simp only [encs_get, encs_len, enc_len, enc_take, enc_frz, Heap.puts, Heap.put_app, Heap.put_app0, Heap.put_len, Heap.put, List.length_append, List.length_cons, List.length_nil, Nat.zero_add, Nat.reduceAdd] <;> rfl))) | with_reducible (first | refine aw_reg_d P_mixed ?_ | refine ar_done ?_ | refine aw_seq ?_ | refine aw_reg ?_ | refine aw_block ?_ | refine aw_skip ?_ | refine aw_exit ?_ | refine aw_ret ?_ | refine at_n ?_ | refine at_e ?_ | refine at_r ?_ | refine ab_n ?_ | refine ab_r ?_ | refine ab_e ?_ | refine ab_ne rfl ?_ | refine an_e ?_ | refine an_r ?_ | refine am_e ?_ | refine am_r ?_) | ((with_reducible apply aw_cond_f); (focus (simp only [go_sem, Nat.reduceLT, Nat.reduceAdd, Nat.reduceLeDiff, Nat.reduceMul, Nat.reduceEqDiff, Nat.reduceBEq, reduceIte, encs_get, encs_len, enc_len, enc_take, enc_frz] <;> rfl))) | ((with_reducible apply aw_cond_t); (focus (simp only [go_sem, Nat.reduceLT, Nat.reduceAdd, Nat.reduceLeDiff, Nat.reduceMul, Nat.reduceEqDiff, Nat.reduceBEq, reduceIte, encs_get, encs_len, enc_len, enc_take, enc_frz] <;> rfl))) | ((with_reducible apply aw_cond_d); (focus (simp only [go_sem, Nat.reduceLT, Nat.reduceAdd, Nat.reduceLeDiff, Nat.reduceMul, Nat.reduceEqDiff, Nat.reduceBEq, reduceIte, encs_get, encs_len, enc_len, enc_take, enc_frz] <;> rfl)); all_goals (intro hcond; try (exfalso; omega))) | ((with_reducible first | apply ae_r | apply ae_n); (focus (simp only [go_sem, Nat.reduceLT, Nat.reduceAdd, Nat.reduceLeDiff, Nat.reduceMul, Nat.reduceEqDiff, Nat.reduceBEq, reduceIte, encs_get, encs_len, enc_len, enc_take, enc_frz] <;> rfl))) | ((with_reducible apply ard_done); (focus rfl)))
  · simp [aresV, szVS, hcond, frz]
  · refine aw_loopc (fun k env H => ∃ (i : Nat) (m : Int), i ≤ l.length ∧ k = l.length - i ∧ 0 ≤ m ∧ m ≤ x ∧ szVs (l.drop i) m = szVS l x ∧ H = [] ∧ env = [(0, .fsl 5 (encs l)), (1, .int .i64 m), (5, .int .i64 i)]) l.length
      [(0, .fsl 5 (encs l)), (1, .int .i64 (x - l.length)), (5, .int .i64 0)] [] (by simp [subP, Env.get, Weak.refl]) rfl trivial rfl rfl ⟨0, x - l.length, Nat.zero_le _, rfl, by omega, by omega, by simp [szVS, hcond], rfl, rfl⟩ ?_
    rintro k env H ⟨i, m, hi, hk, hm0, hm1, hgo, rfl, rfl⟩
    by_cases hlt : i < l.length
    · have hmem := mem_getD (d := default) hlt
      have hff := fitss_mem hf _ hmem
      have hle := szV_le (l.getD i default) hm0
      rw [drop_cons default hlt, szVs] at hgo
      repeat' (first | ((with_reducible first | apply ar_w T_ok | apply ar_w0 T_ok | apply ard_w T_ok | apply ard_w0 T_ok); (focus (simp (disch := omega) only [go_sem, Nat.reduceLT, Nat.reduceAdd, Nat.reduceLeDiff, Nat.reduceMul, Nat.reduceEqDiff, Nat.reduceBEq, reduceIte, encs_get, encs_len, enc_len, enc_take, enc_frz] <;> rfl)); (focus (first | rfl | (simp [okIdsB, Nat.ble_eq]; done))); (focus rfl); (focus (first | trivial | (simp only [preOK]; omega) | exact ⟨by first | trivial | rfl | omega, by assumption, by omega⟩ | (simp [preOK, AllBytes, encs_get, encs_len, enc_len, enc_take, enc_frz]; first | done | omega))); (focus (simp only [encs_get, encs_len, enc_len, enc_take, enc_frz, Heap.puts, Heap.put_app, Heap.put_app0, Heap.put_len, Heap.put, List.length_append, List.length_cons, List.length_nil, Nat.zero_add, Nat.reduceAdd] <;> rfl))) | with_reducible (first | refine aw_reg_d P_mixed ?_ | refine ar_done ?_ | refine aw_seq ?_ | refine aw_reg ?_ | refine aw_block ?_ | refine aw_skip ?_ | refine aw_exit ?_ | refine aw_ret ?_ | refine at_n ?_ | refine at_e ?_ | refine at_r ?_ | refine ab_n ?_ | refine ab_r ?_ | refine ab_e ?_ | refine ab_ne rfl ?_ | refine an_e ?_ | refine an_r ?_ | refine am_e ?_ | refine am_r ?_) | ((with_reducible apply aw_cond_f); (focus (simp only [go_sem, Nat.reduceLT, Nat.reduceAdd, Nat.reduceLeDiff, Nat.reduceMul, Nat.reduceEqDiff, Nat.reduceBEq, reduceIte, encs_get, encs_len, enc_len, enc_take, enc_frz] <;> rfl))) | ((with_reducible apply aw_cond_t); (focus (simp only [go_sem, Nat.reduceLT, Nat.reduceAdd, Nat.reduceLeDiff, Nat.reduceMul, Nat.reduceEqDiff, Nat.reduceBEq, reduceIte, encs_get, encs_len, enc_len, enc_take, enc_frz] <;> rfl))) | ((with_reducible apply aw_cond_d); (focus (simp only [go_sem, Nat.reduceLT, Nat.reduceAdd, Nat.reduceLeDiff, Nat.reduceMul, Nat.reduceEqDiff, Nat.reduceBEq, reduceIte, encs_get, encs_len, enc_len, enc_take, enc_frz] <;> rfl)); all_goals (intro hcond; try (exfalso; omega))) | ((with_reducible first | apply ae_r | apply ae_n); (focus (simp only [go_sem, Nat.reduceLT, Nat.reduceAdd, Nat.reduceLeDiff, Nat.reduceMul, Nat.reduceEqDiff, Nat.reduceBEq, reduceIte, encs_get, encs_len, enc_len, enc_take, enc_frz] <;> rfl))) | ((with_reducible apply ard_done); (focus rfl)))
      ((apply ar_call rfl ok_66); (focus (simp only [go_sem, Nat.reduceLT, Nat.reduceAdd, Nat.reduceLeDiff, Nat.reduceMul, Nat.reduceEqDiff, Nat.reduceBEq, reduceIte, encs_get, encs_len, enc_len, enc_take, enc_frz, List.map] <;> rfl)); (focus exact ih _ m hmem hm0 (by omega) hff); (focus rfl); (focus rfl))
      repeat' (first | ((with_reducible first | apply ar_w T_ok | apply ar_w0 T_ok | apply ard_w T_ok | apply ard_w0 T_ok); (focus (simp (disch := omega) only [go_sem, Nat.reduceLT, Nat.reduceAdd, Nat.reduceLeDiff, Nat.reduceMul, Nat.reduceEqDiff, Nat.reduceBEq, reduceIte, encs_get, encs_len, enc_len, enc_take, enc_frz] <;> rfl)); (focus (first | rfl | (simp [okIdsB, Nat.ble_eq]; done))); (focus rfl); (focus (first | trivial | (simp only [preOK]; omega) | exact ⟨by first | trivial | rfl | omega, by assumption, by omega⟩ | (simp [preOK, AllBytes, encs_get, encs_len, enc_len, enc_take, enc_frz]; first | done | omega))); (focus (simp only [encs_get, encs_len, enc_len, enc_take, enc_frz, Heap.puts, Heap.put_app, Heap.put_app0, Heap.put_len, Heap.put, List.length_append, List.length_cons, List.length_nil, Nat.zero_add, Nat.reduceAdd] <;> rfl))) | with_reducible (first | refine aw_reg_d P_mixed ?_ | refine ar_done ?_ | refine aw_seq ?_ | refine aw_reg ?_ | refine aw_block ?_ | refine aw_skip ?_ | refine aw_exit ?_ | refine aw_ret ?_ | refine at_n ?_ | refine at_e ?_ | refine at_r ?_ | refine ab_n ?_ | refine ab_r ?_ | refine ab_e ?_ | refine ab_ne rfl ?_ | refine an_e ?_ | refine an_r ?_ | refine am_e ?_ | refine am_r ?_) | ((with_reducible apply aw_cond_f); (focus (simp only [go_sem, Nat.reduceLT, Nat.reduceAdd, Nat.reduceLeDiff, Nat.reduceMul, Nat.reduceEqDiff, Nat.reduceBEq, reduceIte, encs_get, encs_len, enc_len, enc_take, enc_frz] <;> rfl))) | ((with_reducible apply aw_cond_t); (focus (simp only [go_sem, Nat.reduceLT, Nat.reduceAdd, Nat.reduceLeDiff, Nat.reduceMul, Nat.reduceEqDiff, Nat.reduceBEq, reduceIte, encs_get, encs_len, enc_len, enc_take, enc_frz] <;> rfl))) | ((with_reducible apply aw_cond_d); (focus (simp only [go_sem, Nat.reduceLT, Nat.reduceAdd, Nat.reduceLeDiff, Nat.reduceMul, Nat.reduceEqDiff, Nat.reduceBEq, reduceIte, encs_get, encs_len, enc_len, enc_take, enc_frz] <;> rfl)); all_goals (intro hcond; try (exfalso; omega))) | ((with_reducible first | apply ae_r | apply ae_n); (focus (simp only [go_sem, Nat.reduceLT, Nat.reduceAdd, Nat.reduceLeDiff, Nat.reduceMul, Nat.reduceEqDiff, Nat.reduceBEq, reduceIte, encs_get, encs_len, enc_len, enc_take, enc_frz] <;> rfl))) | ((with_reducible apply ard_done); (focus rfl)))
      · rw [if_pos hcond] at hgo; simp [aresV, frz, ← hgo]
      · rw [if_neg hcond] at hgo
        exact anext0 [(0, .fsl 5 (encs l)), (1, .int .i64 (szV (l.getD i default) m)), (5, .int .i64 (i + 1 : Nat))] [] (k' := l.length - (i + 1)) (by omega) (by simp [subP, Env.get, Weak.refl]) rfl trivial rfl rfl
          ⟨i + 1, _, by omega, rfl, by omega, by omega, hgo, rfl, rfl⟩
    · have : i = l.length := by omega
      subst this
      repeat' (first | ((with_reducible first | apply ar_w T_ok | apply ar_w0 T_ok | apply ard_w T_ok | apply ard_w0 T_ok); (focus (simp (disch := omega) only [go_sem, Nat.reduceLT, Nat.reduceAdd, Nat.reduceLeDiff, Nat.reduceMul, Nat.reduceEqDiff, Nat.reduceBEq, reduceIte, encs_get, encs_len, enc_len, enc_take, enc_frz] <;> rfl)); (focus (first | rfl | (simp [okIdsB, Nat.ble_eq]; done))); (focus rfl); (focus (first | trivial | (simp only [preOK]; omega) | exact ⟨by first | trivial | rfl | omega, by assumption, by omega⟩ | (simp [preOK, AllBytes, encs_get, encs_len, enc_len, enc_take, enc_frz]; first | done | omega))); (focus (simp only [encs_get, encs_len, enc_len, enc_take, enc_frz, Heap.puts, Heap.put_app, Heap.put_app0, Heap.put_len, Heap.put, List.length_append, List.length_cons, List.length_nil, Nat.zero_add, Nat.reduceAdd] <;> rfl))) | with_reducible (first | refine aw_reg_d P_mixed ?_ | refine ar_done ?_ | refine aw_seq ?_ | refine aw_reg ?_ | refine aw_block ?_ | refine aw_skip ?_ | refine aw_exit ?_ | refine aw_ret ?_ | refine at_n ?_ | refine at_e ?_ | refine at_r ?_ | refine ab_n ?_ | refine ab_r ?_ | refine ab_e ?_ | refine ab_ne rfl ?_ | refine an_e ?_ | refine an_r ?_ | refine am_e ?_ | refine am_r ?_) | ((with_reducible apply aw_cond_f); (focus (simp only [go_sem, Nat.reduceLT, Nat.reduceAdd, Nat.reduceLeDiff, Nat.reduceMul, Nat.reduceEqDiff, Nat.reduceBEq, reduceIte, encs_get, encs_len, enc_len, enc_take, enc_frz] <;> rfl))) | ((with_reducible apply aw_cond_t); (focus (simp only [go_sem, Nat.reduceLT, Nat.reduceAdd, Nat.reduceLeDiff, Nat.reduceMul, Nat.reduceEqDiff, Nat.reduceBEq, reduceIte, encs_get, encs_len, enc_len, enc_take, enc_frz] <;> rfl))) | ((with_reducible apply aw_cond_d); (focus (simp only [go_sem, Nat.reduceLT, Nat.reduceAdd, Nat.reduceLeDiff, Nat.reduceMul, Nat.reduceEqDiff, Nat.reduceBEq, reduceIte, encs_get, encs_len, enc_len, enc_take, enc_frz] <;> rfl)); all_goals (intro hcond; try (exfalso; omega))) | ((with_reducible first | apply ae_r | apply ae_n); (focus (simp only [go_sem, Nat.reduceLT, Nat.reduceAdd, Nat.reduceLeDiff, Nat.reduceMul, Nat.reduceEqDiff, Nat.reduceBEq, reduceIte, encs_get, encs_len, enc_len, enc_take, enc_frz] <;> rfl))) | ((with_reducible apply ard_done); (focus rfl)))
      simp [szVs] at hgo
      simp [aresV, frz, hgo]

theorem sz_all (N : Nat) : (∀ (v : GV) (x : Int), v.size < N → 0 ≤ x → x ≤ 1048576 → v.fits → PCall P 66 [.agg v.enc, .int .i64 x] (.int .i64 (szV v x))) ∧
    (∀ (l : List GV) (x : Int), sizes l < N → 0 ≤ x → x ≤ 1048576 → Len l → fitss l → PCall P 92 [.fsl 5 (encs l), .int .i64 x] (.int .i64 (szVS l x))) := by
  induction N with
  | zero => exact ⟨fun v x h => by omega, fun l x h => by omega⟩
  | succ N ih =>
    have h1 : ∀ (l : List GV) (x : Int), sizes l < N + 1 → 0 ≤ x → x ≤ 1048576 → Len l → fitss l → PCall P 92 [.fsl 5 (encs l), .int .i64 x] (.int .i64 (szVS l x)) :=
      fun l x h a b c d => szValueS_ok l x a b c d fun v y hv e f g => ih.1 v y (by have := sizes_mem hv; omega) e f g
    exact ⟨fun v x h a b c => szValue_ok v x a b c fun l y hl e f g i => h1 l y (by omega) e f g i, h1⟩
theorem szValue_all (v : GV) (x : Int) (h0 : 0 ≤ x) (h1 : x ≤ 1048576) (hf : v.fits) : PCall P 66 [.agg v.enc, .int .i64 x] (.int .i64 (szV v x)) :=
  (sz_all (v.size + 1)).1 v x (by omega) h0 h1 hf

/-! ### nodes -/
structure GN where
  id : Int
  ty : List UInt8
  cells : GV
instance : Inhabited GN := ⟨0, [], default⟩
def GN.enc (n : GN) : List AV := .int .i64 n.id :: .str n.ty :: n.cells.enc
def encn (l : List GN) : List (List AV) := l.map GN.enc
def GN.fits (n : GN) : Prop := I64 n.id ∧ Len n.ty ∧ n.cells.fits
theorem encn_len (l : List GN) : (encn l).length = l.length := by simp [encn]
theorem encn_get {l : List GN} {i : Nat} (h : i < l.length) : (encn l).getD i [] = (l.getD i default).enc := by
  simp [encn, List.getD_eq_getElem?_getD, h]
theorem nenc_len (v : GN) : v.enc.length = 7 := by simp [GN.enc, enc_len]
theorem nenc_frz (v : GN) : frzL v.enc = some v.enc := by
  obtain ⟨a, b, c⟩ := v; cases c; rfl
theorem nenc_take (v : GN) : takeN 7 v.enc = some v.enc := by
  obtain ⟨a, b, c⟩ := v; cases c; rfl
def szN (n : GN) (x : Int) : Int := if x - n.ty.length < 0 then -1 else if szV n.cells (x - n.ty.length) < 0 then -1 else szV n.cells (x - n.ty.length)
def szNs : List GN → Int → Int
  | [], x => x
  | v :: r, x => if szN v x < 0 then -1 else szNs r (szN v x)
def szNS (l : List GN) (x : Int) : Int := if x - l.length < 0 then -1 else szNs l (x - l.length)
theorem szN_le (v : GN) {x : Int} (h : 0 ≤ x) : -1 ≤ szN v x ∧ szN v x ≤ x := by
  unfold szN
  split
  · omega
  · have := szV_le v.cells (x := x - v.ty.length) (by omega)
    split <;> omega
theorem szNs_le : ∀ (l : List GN) {x : Int}, 0 ≤ x → -1 ≤ szNs l x ∧ szNs l x ≤ x
  | [], x, h => by simp [szNs]; omega
  | v :: r, x, h => by
    simp only [szNs]
    have h1 := szN_le v h
    split
    · omega
    · have := szNs_le r (x := szN v x) (by omega); omega
theorem szNS_le (l : List GN) {x : Int} (h : 0 ≤ x) : -1 ≤ szNS l x ∧ szNS l x ≤ x := by
  unfold szNS
  split
  · omega
  · have := szNs_le l (x := x - l.length) (by omega); omega

theorem szNode_ok (v : GN) (x : Int) (h0 : 0 ≤ x) (h1 : x ≤ 1048576) (hf : v.fits) : PCall P 27 [.agg v.enc, .int .i64 x] (.int .i64 (szN v x)) := by
  obtain ⟨id, ty, c⟩ := v
  obtain ⟨f1, f2, f3⟩ := hf
  dsimp only at f1 f2 f3
  refine pcall_of_fcall (fcall_walk T_ok ok_27 rfl ?_)
  unfold Go.Proofs.Try.f27
  simp only [Option.getD_some, envOf, Nat.zero_add, Nat.reduceAdd, szN]
  repeat' (first | ((with_reducible first | apply ar_w T_ok | apply ar_w0 T_ok | apply ard_w T_ok | apply ard_w0 T_ok); (focus (simp (disch := omega) only [go_sem, Nat.reduceLT, Nat.reduceAdd, Nat.reduceLeDiff, Nat.reduceMul, Nat.reduceEqDiff, Nat.reduceBEq, reduceIte, enc_len, enc_take, GN.enc, enc_all, enc_frz] <;> rfl)); (focus (first | rfl | (simp [okIdsB, Nat.ble_eq]; done))); (focus rfl); (focus (first | trivial | (simp only [preOK]; omega) | exact ⟨by first | trivial | rfl | omega, by assumption, by omega⟩ | (simp [preOK, AllBytes, enc_len, enc_take, GN.enc, enc_all, enc_frz]; first | done | omega))); (focus (simp only [enc_len, enc_take, GN.enc, enc_all, enc_frz, Heap.puts, Heap.put_app, Heap.put_app0, Heap.put_len, Heap.put, List.length_append, List.length_cons, List.length_nil, Nat.zero_add, Nat.reduceAdd] <;> rfl))) | with_reducible (first | refine aw_reg_d P_mixed ?_ | refine ar_done ?_ | refine aw_seq ?_ | refine aw_reg ?_ | refine aw_block ?_ | refine aw_skip ?_ | refine aw_exit ?_ | refine aw_ret ?_ | refine at_n ?_ | refine at_e ?_ | refine at_r ?_ | refine ab_n ?_ | refine ab_r ?_ | refine ab_e ?_ | refine ab_ne rfl ?_ | refine an_e ?_ | refine an_r ?_ | refine am_e ?_ | refine am_r ?_) | ((with_reducible apply aw_cond_f); (focus (simp only [go_sem, Nat.reduceLT, Nat.reduceAdd, Nat.reduceLeDiff, Nat.reduceMul, Nat.reduceEqDiff, Nat.reduceBEq, reduceIte, enc_len, enc_take, GN.enc, enc_all, enc_frz] <;> rfl))) | ((with_reducible apply aw_cond_t); (focus (simp only [go_sem, Nat.reduceLT, Nat.reduceAdd, Nat.reduceLeDiff, Nat.reduceMul, Nat.reduceEqDiff, Nat.reduceBEq, reduceIte, enc_len, enc_take, GN.enc, enc_all, enc_frz] <;> rfl))) | ((with_reducible apply aw_cond_d); (focus (simp only [go_sem, Nat.reduceLT, Nat.reduceAdd, Nat.reduceLeDiff, Nat.reduceMul, Nat.reduceEqDiff, Nat.reduceBEq, reduceIte, enc_len, enc_take, GN.enc, enc_all, enc_frz] <;> rfl)); all_goals (intro hcond; try (exfalso; omega))) | ((with_reducible first | apply ae_r | apply ae_n); (focus (simp only [go_sem, Nat.reduceLT, Nat.reduceAdd, Nat.reduceLeDiff, Nat.reduceMul, Nat.reduceEqDiff, Nat.reduceBEq, reduceIte, enc_len, enc_take, GN.enc, enc_all, enc_frz] <;> rfl))) | ((with_reducible apply ard_done); (focus rfl)))
  · simp [aresV, frz, hcond]
  rw [if_neg hcond]
  ((apply ar_call rfl ok_66); (focus (simp only [go_sem, Nat.reduceLT, Nat.reduceAdd, Nat.reduceLeDiff, Nat.reduceMul, Nat.reduceEqDiff, Nat.reduceBEq, reduceIte, enc_len, enc_take, GN.enc, enc_all, enc_frz, List.map] <;> rfl)); (focus exact szValue_all c _ (by omega) (by omega) f3); (focus rfl); (focus rfl))
  repeat' (first | ((with_reducible first | apply ar_w T_ok | apply ar_w0 T_ok | apply ard_w T_ok | apply ard_w0 T_ok); (focus (simp (disch := omega) only [go_sem, Nat.reduceLT, Nat.reduceAdd, Nat.reduceLeDiff, Nat.reduceMul, Nat.reduceEqDiff, Nat.reduceBEq, reduceIte, enc_len, enc_take, GN.enc, enc_all, enc_frz] <;> rfl)); (focus (first | rfl | (simp [okIdsB, Nat.ble_eq]; done))); (focus rfl); (focus (first | trivial | (simp only [preOK]; omega) | exact ⟨by first | trivial | rfl | omega, by assumption, by omega⟩ | (simp [preOK, AllBytes, enc_len, enc_take, GN.enc, enc_all, enc_frz]; first | done | omega))); (focus (simp only [enc_len, enc_take, GN.enc, enc_all, enc_frz, Heap.puts, Heap.put_app, Heap.put_app0, Heap.put_len, Heap.put, List.length_append, List.length_cons, List.length_nil, Nat.zero_add, Nat.reduceAdd] <;> rfl))) | with_reducible (first | refine aw_reg_d P_mixed ?_ | refine ar_done ?_ | refine aw_seq ?_ | refine aw_reg ?_ | refine aw_block ?_ | refine aw_skip ?_ | refine aw_exit ?_ | refine aw_ret ?_ | refine at_n ?_ | refine at_e ?_ | refine at_r ?_ | refine ab_n ?_ | refine ab_r ?_ | refine ab_e ?_ | refine ab_ne rfl ?_ | refine an_e ?_ | refine an_r ?_ | refine am_e ?_ | refine am_r ?_) | ((with_reducible apply aw_cond_f); (focus (simp only [go_sem, Nat.reduceLT, Nat.reduceAdd, Nat.reduceLeDiff, Nat.reduceMul, Nat.reduceEqDiff, Nat.reduceBEq, reduceIte, enc_len, enc_take, GN.enc, enc_all, enc_frz] <;> rfl))) | ((with_reducible apply aw_cond_t); (focus (simp only [go_sem, Nat.reduceLT, Nat.reduceAdd, Nat.reduceLeDiff, Nat.reduceMul, Nat.reduceEqDiff, Nat.reduceBEq, reduceIte, enc_len, enc_take, GN.enc, enc_all, enc_frz] <;> rfl))) | ((with_reducible apply aw_cond_d); (focus (simp only [go_sem, Nat.reduceLT, Nat.reduceAdd, Nat.reduceLeDiff, Nat.reduceMul, Nat.reduceEqDiff, Nat.reduceBEq, reduceIte, enc_len, enc_take, GN.enc, enc_all, enc_frz] <;> rfl)); all_goals (intro hcond; try (exfalso; omega))) | ((with_reducible first | apply ae_r | apply ae_n); (focus (simp only [go_sem, Nat.reduceLT, Nat.reduceAdd, Nat.reduceLeDiff, Nat.reduceMul, Nat.reduceEqDiff, Nat.reduceBEq, reduceIte, enc_len, enc_take, GN.enc, enc_all, enc_frz] <;> rfl))) | ((with_reducible apply ard_done); (focus rfl)))
  · simp [aresV, frz, hcond]
  · simp [aresV, frz, hcond]

theorem szNodeS_ok (l : List GN) (x : Int) (h0 : 0 ≤ x) (h1 : x ≤ 1048576) (h2 : Len l) (hf : ∀ v ∈ l, v.fits) : PCall P 6 [.fsl 7 (encn l), .int .i64 x] (.int .i64 (szNS l x)) := by
  refine pcall_of_fcall (fcall_walk T_ok ok_6 rfl ?_)
  unfold Go.Proofs.Try.f6
  simp only [Option.getD_some, envOf, Nat.zero_add, Nat.reduceAdd]
  repeat' (first | ((with_reducible first | apply ar_w T_ok | apply ar_w0 T_ok | apply ard_w T_ok | apply ard_w0 T_ok); (focus (simp (disch := omega) only [go_sem, Nat.reduceLT, Nat.reduceAdd, Nat.reduceLeDiff, Nat.reduceMul, Nat.reduceEqDiff, Nat.reduceBEq, reduceIte, encn_get, encn_len, nenc_len, nenc_take, nenc_frz] <;> rfl)); (focus (first | rfl | (simp [okIdsB, Nat.ble_eq]; done))); (focus rfl); (focus (first | trivial | (simp only [preOK]; omega) | exact ⟨by first | trivial | rfl | omega, by assumption, by omega⟩ | (simp [preOK, AllBytes, encn_get, encn_len, nenc_len, nenc_take, nenc_frz]; first | done | omega))); (focus (simp only [encn_get, encn_len, nenc_len, nenc_take, nenc_frz, Heap.puts, Heap.put_app, Heap.put_app0, Heap.put_len, Heap.put, List.length_append, List.length_cons, List.length_nil, Nat.zero_add, Nat.reduceAdd] <;> rfl))) | with_reducible (first | refine aw_reg_d P_mixed ?_ | refine ar_done ?_ | refine aw_seq ?_ | refine aw_reg ?_ | refine aw_block ?_ | refine aw_skip ?_ | refine aw_exit ?_ | refine aw_ret ?_ | refine at_n ?_ | refine at_e ?_ | refine at_r ?_ | refine ab_n ?_ | refine ab_r ?_ | refine ab_e ?_ | refine ab_ne rfl ?_ | refine an_e ?_ | refine an_r ?_ | refine am_e ?_ | refine am_r ?_) | ((with_reducible apply aw_cond_f); (focus (simp only [go_sem, Nat.reduceLT, Nat.reduceAdd, Nat.reduceLeDiff, Nat.reduceMul, Nat.reduceEqDiff, Nat.reduceBEq, reduceIte, encn_get, encn_len, nenc_len, nenc_take, nenc_frz] <;> rfl))) | ((with_reducible apply aw_cond_t); (focus (simp only [go_sem, Nat.reduceLT, Nat.reduceAdd, Nat.reduceLeDiff, Nat.reduceMul, Nat.reduceEqDiff, Nat.reduceBEq, reduceIte, encn_get, encn_len, nenc_len, nenc_take, nenc_frz] <;> rfl))) | ((with_reducible apply aw_cond_d); (focus (simp only [go_sem, Nat.reduceLT, Nat.reduceAdd, Nat.reduceLeDiff, Nat.reduceMul, Nat.reduceEqDiff, Nat.reduceBEq, reduceIte, encn_get, encn_len, nenc_len, nenc_take, nenc_frz] <;> rfl)); all_goals (intro hcond; try (exfalso; omega))) | ((with_reducible first | apply ae_r | apply ae_n); (focus (simp only [go_sem, Nat.reduceLT, Nat.reduceAdd, Nat.reduceLeDiff, Nat.reduceMul, Nat.reduceEqDiff, Nat.reduceBEq, reduceIte, encn_get, encn_len, nenc_len, nenc_take, nenc_frz] <;> rfl))) | ((with_reducible apply ard_done); (focus rfl)))
  · simp [aresV, szNS, hcond, frz]
  · refine aw_loopc (fun k env H => ∃ (i : Nat) (m : Int), i ≤ l.length ∧ k = l.length - i ∧ 0 ≤ m ∧ m ≤ x ∧ szNs (l.drop i) m = szNS l x ∧ H = [] ∧ env = [(0, .fsl 7 (encn l)), (1, .int .i64 m), (5, .int .i64 i)]) l.length
      [(0, .fsl 7 (encn l)), (1, .int .i64 (x - l.length)), (5, .int .i64 0)] [] (by simp [subP, Env.get, Weak.refl]) rfl trivial rfl rfl ⟨0, x - l.length, Nat.zero_le _, rfl, by omega, by omega, by simp [szNS, hcond], rfl, rfl⟩ ?_
    rintro k env H ⟨i, m, hi, hk, hm0, hm1, hgo, rfl, rfl⟩
    by_cases hlt : i < l.length
    · have hmem := mem_getD (d := default) hlt
      have hff := hf _ hmem
      have hle := szN_le (l.getD i default) hm0
      rw [drop_cons default hlt, szNs] at hgo
      repeat' (first | ((with_reducible first | apply ar_w T_ok | apply ar_w0 T_ok | apply ard_w T_ok | apply ard_w0 T_ok); (focus (simp (disch := omega) only [go_sem, Nat.reduceLT, Nat.reduceAdd, Nat.reduceLeDiff, Nat.reduceMul, Nat.reduceEqDiff, Nat.reduceBEq, reduceIte, encn_get, encn_len, nenc_len, nenc_take, nenc_frz] <;> rfl)); (focus (first | rfl | (simp [okIdsB, Nat.ble_eq]; done))); (focus rfl); (focus (first | trivial | (simp only [preOK]; omega) | exact ⟨by first | trivial | rfl | omega, by assumption, by omega⟩ | (simp [preOK, AllBytes, encn_get, encn_len, nenc_len, nenc_take, nenc_frz]; first | done | omega))); (focus (simp only [encn_get, encn_len, nenc_len, nenc_take, nenc_frz, Heap.puts, Heap.put_app, Heap.put_app0, Heap.put_len, Heap.put, List.length_append, List.length_cons, List.length_nil, Nat.zero_add, Nat.reduceAdd] <;> rfl))) | with_reducible (first | refine aw_reg_d P_mixed ?_ | refine ar_done ?_ | refine aw_seq ?_ | refine aw_reg ?_ | refine aw_block ?_ | refine aw_skip ?_ | refine aw_exit ?_ | refine aw_ret ?_ | refine at_n ?_ | refine at_e ?_ | refine at_r ?_ | refine ab_n ?_ | refine ab_r ?_ | refine ab_e ?_ | refine ab_ne rfl ?_ | refine an_e ?_ | refine an_r ?_ | refine am_e ?_ | refine am_r ?_) | ((with_reducible apply aw_cond_f); (focus (simp only [go_sem, Nat.reduceLT, Nat.reduceAdd, Nat.reduceLeDiff, Nat.reduceMul, Nat.reduceEqDiff, Nat.reduceBEq, reduceIte, encn_get, encn_len, nenc_len, nenc_take, nenc_frz] <;> rfl))) | ((with_reducible apply aw_cond_t); (focus (simp only [go_sem, Nat.reduceLT, Nat.reduceAdd, Nat.reduceLeDiff, Nat.reduceMul, Nat.reduceEqDiff, Nat.reduceBEq, reduceIte, encn_get, encn_len, nenc_len, nenc_take, nenc_frz] <;> rfl))) | ((with_reducible apply aw_cond_d); (focus (simp only [go_sem, Nat.reduceLT, Nat.reduceAdd, Nat.reduceLeDiff, Nat.reduceMul, Nat.reduceEqDiff, Nat.reduceBEq, reduceIte, encn_get, encn_len, nenc_len, nenc_take, nenc_frz] <;> rfl)); all_goals (intro hcond; try (exfalso; omega))) | ((with_reducible first | apply ae_r | apply ae_n); (focus (simp only [go_sem, Nat.reduceLT, Nat.reduceAdd, Nat.reduceLeDiff, Nat.reduceMul, Nat.reduceEqDiff, Nat.reduceBEq, reduceIte, encn_get, encn_len, nenc_len, nenc_take, nenc_frz] <;> rfl))) | ((with_reducible apply ard_done); (focus rfl)))
      ((apply ar_call rfl ok_27); (focus (simp only [go_sem, Nat.reduceLT, Nat.reduceAdd, Nat.reduceLeDiff, Nat.reduceMul, Nat.reduceEqDiff, Nat.reduceBEq, reduceIte, encn_get, encn_len, nenc_len, nenc_take, nenc_frz, List.map] <;> rfl)); (focus exact szNode_ok _ m hm0 (by omega) hff); (focus rfl); (focus rfl))
      repeat' (first | ((with_reducible first | apply ar_w T_ok | apply ar_w0 T_ok | apply ard_w T_ok | apply ard_w0 T_ok); (focus (simp (disch := omega) only [go_sem, Nat.reduceLT, Nat.reduceAdd, Nat.reduceLeDiff, Nat.reduceMul, Nat.reduceEqDiff, Nat.reduceBEq, reduceIte, encn_get, encn_len, nenc_len, nenc_take, nenc_frz] <;> rfl)); (focus (first | rfl | (simp [okIdsB, Nat.ble_eq]; done))); (focus rfl); (focus (first | trivial | (simp only [preOK]; omega) | exact ⟨by first | trivial | rfl | omega, by assumption, by omega⟩ | (simp [preOK, AllBytes, encn_get, encn_len, nenc_len, nenc_take, nenc_frz]; first | done | omega))); (focus (simp only [encn_get, encn_len, nenc_len, nenc_take, nenc_frz, Heap.puts, Heap.put_app, Heap.put_app0, Heap.put_len, Heap.put, List.length_append, List.length_cons, List.length_nil, Nat.zero_add, Nat.reduceAdd] <;> rfl))) | with_reducible (first | refine aw_reg_d P_mixed ?_ | refine ar_done ?_ | refine aw_seq ?_ | refine aw_reg ?_ | refine aw_block ?_ | refine aw_skip ?_ | refine aw_exit ?_ | refine aw_ret ?_ | refine at_n ?_ | refine at_e ?_ | refine at_r ?_ | refine ab_n ?_ | refine ab_r ?_ | refine ab_e ?_ | refine ab_ne rfl ?_ | refine an_e ?_ | refine an_r ?_ | refine am_e ?_ | refine am_r ?_) | ((with_reducible apply aw_cond_f); (focus (simp only [go_sem, Nat.reduceLT, Nat.reduceAdd, Nat.reduceLeDiff, Nat.reduceMul, Nat.reduceEqDiff, Nat.reduceBEq, reduceIte, encn_get, encn_len, nenc_len, nenc_take, nenc_frz] <;> rfl))) | ((with_reducible apply aw_cond_t); (focus (simp only [go_sem, Nat.reduceLT, Nat.reduceAdd, Nat.reduceLeDiff, Nat.reduceMul, Nat.reduceEqDiff, Nat.reduceBEq, reduceIte, encn_get, encn_len, nenc_len, nenc_take, nenc_frz] <;> rfl))) | ((with_reducible apply aw_cond_d); (focus (simp only [go_sem, Nat.reduceLT, Nat.reduceAdd, Nat.reduceLeDiff, Nat.reduceMul, Nat.reduceEqDiff, Nat.reduceBEq, reduceIte, encn_get, encn_len, nenc_len, nenc_take, nenc_frz] <;> rfl)); all_goals (intro hcond; try (exfalso; omega))) | ((with_reducible first | apply ae_r | apply ae_n); (focus (simp only [go_sem, Nat.reduceLT, Nat.reduceAdd, Nat.reduceLeDiff, Nat.reduceMul, Nat.reduceEqDiff, Nat.reduceBEq, reduceIte, encn_get, encn_len, nenc_len, nenc_take, nenc_frz] <;> rfl))) | ((with_reducible apply ard_done); (focus rfl)))
      · rw [if_pos hcond] at hgo; simp [aresV, frz, ← hgo]
      · rw [if_neg hcond] at hgo
        exact anext0 [(0, .fsl 7 (encn l)), (1, .int .i64 (szN (l.getD i default) m)), (5, .int .i64 (i + 1 : Nat))] [] (k' := l.length - (i + 1)) (by omega) (by simp [subP, Env.get, Weak.refl]) rfl trivial rfl rfl
          ⟨i + 1, _, by omega, rfl, by omega, by omega, hgo, rfl, rfl⟩
    · have : i = l.length := by omega
      subst this
      repeat' (first | ((with_reducible first | apply ar_w T_ok | apply ar_w0 T_ok | apply ard_w T_ok | apply ard_w0 T_ok); (focus (simp (disch := omega) only [go_sem, Nat.reduceLT, Nat.reduceAdd, Nat.reduceLeDiff, Nat.reduceMul, Nat.reduceEqDiff, Nat.reduceBEq, reduceIte, encn_get, encn_len, nenc_len, nenc_take, nenc_frz] <;> rfl)); (focus (first | rfl | (simp [okIdsB, Nat.ble_eq]; done))); (focus rfl); (focus (first | trivial | (simp only [preOK]; omega) | exact ⟨by first | trivial | rfl | omega, by assumption, by omega⟩ | (simp [preOK, AllBytes, encn_get, encn_len, nenc_len, nenc_take, nenc_frz]; first | done | omega))); (focus (simp only [encn_get, encn_len, nenc_len, nenc_take, nenc_frz, Heap.puts, Heap.put_app, Heap.put_app0, Heap.put_len, Heap.put, List.length_append, List.length_cons, List.length_nil, Nat.zero_add, Nat.reduceAdd] <;> rfl))) | with_reducible (first | refine aw_reg_d P_mixed ?_ | refine ar_done ?_ | refine aw_seq ?_ | refine aw_reg ?_ | refine aw_block ?_ | refine aw_skip ?_ | refine aw_exit ?_ | refine aw_ret ?_ | refine at_n ?_ | refine at_e ?_ | refine at_r ?_ | refine ab_n ?_ | refine ab_r ?_ | refine ab_e ?_ | refine ab_ne rfl ?_ | refine an_e ?_ | refine an_r ?_ | refine am_e ?_ | refine am_r ?_) | ((with_reducible apply aw_cond_f); (focus (simp only [go_sem, Nat.reduceLT, Nat.reduceAdd, Nat.reduceLeDiff, Nat.reduceMul, Nat.reduceEqDiff, Nat.reduceBEq, reduceIte, encn_get, encn_len, nenc_len, nenc_take, nenc_frz] <;> rfl))) | ((with_reducible apply aw_cond_t); (focus (simp only [go_sem, Nat.reduceLT, Nat.reduceAdd, Nat.reduceLeDiff, Nat.reduceMul, Nat.reduceEqDiff, Nat.reduceBEq, reduceIte, encn_get, encn_len, nenc_len, nenc_take, nenc_frz] <;> rfl))) | ((with_reducible apply aw_cond_d); (focus (simp only [go_sem, Nat.reduceLT, Nat.reduceAdd, Nat.reduceLeDiff, Nat.reduceMul, Nat.reduceEqDiff, Nat.reduceBEq, reduceIte, encn_get, encn_len, nenc_len, nenc_take, nenc_frz] <;> rfl)); all_goals (intro hcond; try (exfalso; omega))) | ((with_reducible first | apply ae_r | apply ae_n); (focus (simp only [go_sem, Nat.reduceLT, Nat.reduceAdd, Nat.reduceLeDiff, Nat.reduceMul, Nat.reduceEqDiff, Nat.reduceBEq, reduceIte, encn_get, encn_len, nenc_len, nenc_take, nenc_frz] <;> rfl))) | ((with_reducible apply ard_done); (focus rfl)))
      simp [szNs] at hgo
      simp [aresV, frz, hgo]
end Go.Av
set_option linter.unusedVariables false
set_option linter.unusedSimpArgs false
namespace Go.Av
open Go
set_option maxRecDepth 10000

theorem l1Copy_ok (v : GV) (hf : v.fits) (ih : ∀ u : GV, u.size < v.size → u.fits → PCall P 67 [.agg u.enc] (.agg u.enc)) : PCall P 67 [.agg v.enc] (.agg v.enc) := by
  obtain ⟨k, n, t, l, ns⟩ := v
  obtain ⟨f1, f2, f3, f4, f5, f6, f7⟩ := hf
  refine pcall_of_fcall (fcall_walk T_ok ok_67 rfl ?_)
  unfold Go.Proofs.Try.f67
  simp only [Option.getD_some, envOf, Nat.zero_add, Nat.reduceAdd, GV.enc]
  refine aw_seq ?_
  repeat' (first | ((with_reducible first | apply ar_w T_ok | apply ar_w0 T_ok | apply ard_w T_ok | apply ard_w0 T_ok); (focus (simp (disch := omega) only [go_sem, Nat.reduceLT, Nat.reduceAdd, Nat.reduceLeDiff, Nat.reduceMul, Nat.reduceEqDiff, Nat.reduceBEq, reduceIte, encs_get, encs_len, enc_len, enc_take, enc_frz, enc_all, strs_get, strs_len] <;> rfl)); (focus (first | rfl | (simp [okIdsB, Nat.ble_eq]; done))); (focus rfl); (focus (first | trivial | (simp only [preOK]; omega) | exact ⟨by first | trivial | rfl | omega, by assumption, by omega⟩ | (simp [preOK, AllBytes, encs_get, encs_len, enc_len, enc_take, enc_frz, enc_all, strs_get, strs_len]; first | done | omega))); (focus (simp only [encs_get, encs_len, enc_len, enc_take, enc_frz, enc_all, strs_get, strs_len, Heap.puts, Heap.put_app, Heap.put_app0, Heap.put_len, Heap.put, List.length_append, List.length_cons, List.length_nil, Nat.zero_add, Nat.reduceAdd] <;> rfl))) | with_reducible (first | refine aw_reg_d P_mixed ?_ | refine ar_done ?_ | refine aw_reg ?_ | refine at_n ?_) | ((with_reducible apply ard_done); (focus rfl)))
  refine aw_seq ?_
  repeat' (first | ((with_reducible first | apply ar_w T_ok | apply ar_w0 T_ok | apply ard_w T_ok | apply ard_w0 T_ok); (focus (simp (disch := omega) only [go_sem, Nat.reduceLT, Nat.reduceAdd, Nat.reduceLeDiff, Nat.reduceMul, Nat.reduceEqDiff, Nat.reduceBEq, reduceIte, encs_get, encs_len, enc_len, enc_take, enc_frz, enc_all, strs_get, strs_len] <;> rfl)); (focus (first | rfl | (simp [okIdsB, Nat.ble_eq]; done))); (focus rfl); (focus (first | trivial | (simp only [preOK]; omega) | exact ⟨by first | trivial | rfl | omega, by assumption, by omega⟩ | (simp [preOK, AllBytes, encs_get, encs_len, enc_len, enc_take, enc_frz, enc_all, strs_get, strs_len]; first | done | omega))); (focus (simp only [encs_get, encs_len, enc_len, enc_take, enc_frz, enc_all, strs_get, strs_len, Heap.puts, Heap.put_app, Heap.put_app0, Heap.put_len, Heap.put, List.length_append, List.length_cons, List.length_nil, Nat.zero_add, Nat.reduceAdd] <;> rfl))) | with_reducible (first | refine aw_reg_d P_mixed ?_ | refine ar_done ?_ | refine aw_reg ?_ | refine at_n ?_) | ((with_reducible apply ard_done); (focus rfl)))
  refine aw_seq_mid (fun env H => env = [(1, .ptr 0 0 0), (2, .ptr 1 0 0), (3, .ptr 2 0 0)] ∧ H = [.row 5 [[.int .i64 k, .int .i64 n, .str t, .fsl 5 (encs l), .fsl 1 (strs ns)]], .row 5 [[.int .i64 0, .int .i64 0, .str [], .nsl 5, .nsl 1]], .row 5 [[.int .i64 k, .int .i64 n, .str t, .fsl 5 (encs l), .nsl 1]]]) ?_ ?_
  · repeat' (first | ((with_reducible first | apply ar_w T_ok | apply ar_w0 T_ok | apply ard_w T_ok | apply ard_w0 T_ok); (focus (simp (disch := omega) only [go_sem, Nat.reduceLT, Nat.reduceAdd, Nat.reduceLeDiff, Nat.reduceMul, Nat.reduceEqDiff, Nat.reduceBEq, reduceIte, encs_get, encs_len, enc_len, enc_take, enc_frz, enc_all, strs_get, strs_len] <;> rfl)); (focus (first | rfl | (simp [okIdsB, Nat.ble_eq]; done))); (focus rfl); (focus (first | trivial | (simp only [preOK]; omega) | exact ⟨by first | trivial | rfl | omega, by assumption, by omega⟩ | (simp [preOK, AllBytes, encs_get, encs_len, enc_len, enc_take, enc_frz, enc_all, strs_get, strs_len]; first | done | omega))); (focus (simp only [encs_get, encs_len, enc_len, enc_take, enc_frz, enc_all, strs_get, strs_len, Heap.puts, Heap.put_app, Heap.put_app0, Heap.put_len, Heap.put, List.length_append, List.length_cons, List.length_nil, Nat.zero_add, Nat.reduceAdd] <;> rfl))) | with_reducible (first | refine aw_reg_d P_mixed ?_ | refine ar_done ?_ | refine aw_seq ?_ | refine aw_reg ?_ | refine aw_block ?_ | refine aw_skip ?_ | refine aw_exit ?_ | refine aw_ret ?_ | refine at_n ?_ | refine at_e ?_ | refine at_r ?_ | refine ab_n ?_ | refine ab_r ?_ | refine ab_e ?_ | refine ab_ne rfl ?_ | refine an_e ?_ | refine an_r ?_ | refine am_e ?_ | refine am_r ?_) | ((with_reducible apply aw_cond_f); (focus (simp only [go_sem, Nat.reduceLT, Nat.reduceAdd, Nat.reduceLeDiff, Nat.reduceMul, Nat.reduceEqDiff, Nat.reduceBEq, reduceIte, encs_get, encs_len, enc_len, enc_take, enc_frz, enc_all, strs_get, strs_len] <;> rfl))) | ((with_reducible apply aw_cond_t); (focus (simp only [go_sem, Nat.reduceLT, Nat.reduceAdd, Nat.reduceLeDiff, Nat.reduceMul, Nat.reduceEqDiff, Nat.reduceBEq, reduceIte, encs_get, encs_len, enc_len, enc_take, enc_frz, enc_all, strs_get, strs_len] <;> rfl))) | ((with_reducible apply aw_cond_d); (focus (simp only [go_sem, Nat.reduceLT, Nat.reduceAdd, Nat.reduceLeDiff, Nat.reduceMul, Nat.reduceEqDiff, Nat.reduceBEq, reduceIte, encs_get, encs_len, enc_len, enc_take, enc_frz, enc_all, strs_get, strs_len] <;> rfl)); all_goals (intro hcond; try (exfalso; omega))) | ((with_reducible first | apply ae_r | apply ae_n); (focus (simp only [go_sem, Nat.reduceLT, Nat.reduceAdd, Nat.reduceLeDiff, Nat.reduceMul, Nat.reduceEqDiff, Nat.reduceBEq, reduceIte, encs_get, encs_len, enc_len, enc_take, enc_frz, enc_all, strs_get, strs_len] <;> rfl))) | ((with_reducible apply ard_done); (focus rfl)))
    refine aw_loopc (fun kk env H => ∃ i : Nat, i ≤ l.length ∧ kk = l.length - i ∧ env = [(1, .ptr 0 0 0), (2, .ptr 1 0 0), (3, .ptr 2 0 0), (4, .int .i64 i)] ∧
        ((i = 0 ∧ H = [.row 5 [[.int .i64 k, .int .i64 n, .str t, .fsl 5 (encs l), .fsl 1 (strs ns)]], .row 5 [[.int .i64 0, .int .i64 0, .str [], .nsl 5, .nsl 1]], .row 5 [[.int .i64 k, .int .i64 n, .str t, .nsl 5, .nsl 1]]]) ∨
         (0 < i ∧ H = [.row 5 [[.int .i64 k, .int .i64 n, .str t, .fsl 5 (encs l), .fsl 1 (strs ns)]], .row 5 [[.int .i64 0, .int .i64 0, .str [], .nsl 5, .nsl 1]], .row 5 [[.int .i64 k, .int .i64 n, .str t, .asl 4 i 5 (encs (l.take i)), .nsl 1]], .dead, .tok i]))) l.length
      [(1, .ptr 0 0 0), (2, .ptr 1 0 0), (3, .ptr 2 0 0), (4, .int .i64 0)] _ (by simp [subP, Env.get, Weak.refl]) rfl (heapW_refl _) rfl rfl ⟨0, Nat.zero_le _, rfl, rfl, .inl ⟨rfl, rfl⟩⟩ ?_
    rintro kk env H ⟨i, hi, hk, rfl, hH⟩
    by_cases hlt : i < l.length
    · have hmem := mem_getD (d := default) hlt
      have hff := fitss_mem f5 _ hmem
      have hsz := sizes_mem hmem
      have htake := encs_take hlt
      rcases hH with ⟨rfl, rfl⟩ | ⟨hpos, rfl⟩
      · repeat' (first | ((with_reducible first | apply ar_w T_ok | apply ar_w0 T_ok | apply ard_w T_ok | apply ard_w0 T_ok); (focus (simp (disch := omega) only [go_sem, Nat.reduceLT, Nat.reduceAdd, Nat.reduceLeDiff, Nat.reduceMul, Nat.reduceEqDiff, Nat.reduceBEq, reduceIte, encs_get, encs_len, enc_len, enc_take, enc_frz, enc_all, strs_get, strs_len] <;> rfl)); (focus (first | rfl | (simp [okIdsB, Nat.ble_eq]; done))); (focus rfl); (focus (first | trivial | (simp only [preOK]; omega) | exact ⟨by first | trivial | rfl | omega, by assumption, by omega⟩ | (simp [preOK, AllBytes, encs_get, encs_len, enc_len, enc_take, enc_frz, enc_all, strs_get, strs_len]; first | done | omega))); (focus (simp only [encs_get, encs_len, enc_len, enc_take, enc_frz, enc_all, strs_get, strs_len, Heap.puts, Heap.put_app, Heap.put_app0, Heap.put_len, Heap.put, List.length_append, List.length_cons, List.length_nil, Nat.zero_add, Nat.reduceAdd] <;> rfl))) | with_reducible (first | refine aw_reg_d P_mixed ?_ | refine ar_done ?_ | refine aw_seq ?_ | refine aw_reg ?_ | refine aw_block ?_ | refine aw_skip ?_ | refine aw_exit ?_ | refine aw_ret ?_ | refine at_n ?_ | refine at_e ?_ | refine at_r ?_ | refine ab_n ?_ | refine ab_r ?_ | refine ab_e ?_ | refine ab_ne rfl ?_ | refine an_e ?_ | refine an_r ?_ | refine am_e ?_ | refine am_r ?_) | ((with_reducible apply aw_cond_f); (focus (simp only [go_sem, Nat.reduceLT, Nat.reduceAdd, Nat.reduceLeDiff, Nat.reduceMul, Nat.reduceEqDiff, Nat.reduceBEq, reduceIte, encs_get, encs_len, enc_len, enc_take, enc_frz, enc_all, strs_get, strs_len] <;> rfl))) | ((with_reducible apply aw_cond_t); (focus (simp only [go_sem, Nat.reduceLT, Nat.reduceAdd, Nat.reduceLeDiff, Nat.reduceMul, Nat.reduceEqDiff, Nat.reduceBEq, reduceIte, encs_get, encs_len, enc_len, enc_take, enc_frz, enc_all, strs_get, strs_len] <;> rfl))) | ((with_reducible apply aw_cond_d); (focus (simp only [go_sem, Nat.reduceLT, Nat.reduceAdd, Nat.reduceLeDiff, Nat.reduceMul, Nat.reduceEqDiff, Nat.reduceBEq, reduceIte, encs_get, encs_len, enc_len, enc_take, enc_frz, enc_all, strs_get, strs_len] <;> rfl)); all_goals (intro hcond; try (exfalso; omega))) | ((with_reducible first | apply ae_r | apply ae_n); (focus (simp only [go_sem, Nat.reduceLT, Nat.reduceAdd, Nat.reduceLeDiff, Nat.reduceMul, Nat.reduceEqDiff, Nat.reduceBEq, reduceIte, encs_get, encs_len, enc_len, enc_take, enc_frz, enc_all, strs_get, strs_len] <;> rfl))) | ((with_reducible apply ard_done); (focus rfl)))
        ((apply ard_call rfl ok_67); (focus (simp only [go_sem, Nat.reduceLT, Nat.reduceAdd, Nat.reduceLeDiff, Nat.reduceMul, Nat.reduceEqDiff, Nat.reduceBEq, reduceIte, encs_get, encs_len, enc_len, enc_take, enc_frz, enc_all, strs_get, strs_len, List.map] <;> rfl)); (focus exact ih _ (by simp only [GV.size]; omega) hff); (focus rfl); (focus rfl))
        repeat' (first | ((with_reducible first | apply ar_w T_ok | apply ar_w0 T_ok | apply ard_w T_ok | apply ard_w0 T_ok); (focus (simp (disch := omega) only [go_sem, Nat.reduceLT, Nat.reduceAdd, Nat.reduceLeDiff, Nat.reduceMul, Nat.reduceEqDiff, Nat.reduceBEq, reduceIte, encs_get, encs_len, enc_len, enc_take, enc_frz, enc_all, strs_get, strs_len] <;> rfl)); (focus (first | rfl | (simp [okIdsB, Nat.ble_eq]; done))); (focus rfl); (focus (first | trivial | (simp only [preOK]; omega) | exact ⟨by first | trivial | rfl | omega, by assumption, by omega⟩ | (simp [preOK, AllBytes, encs_get, encs_len, enc_len, enc_take, enc_frz, enc_all, strs_get, strs_len]; first | done | omega))); (focus (simp only [encs_get, encs_len, enc_len, enc_take, enc_frz, enc_all, strs_get, strs_len, Heap.puts, Heap.put_app, Heap.put_app0, Heap.put_len, Heap.put, List.length_append, List.length_cons, List.length_nil, Nat.zero_add, Nat.reduceAdd] <;> rfl))) | with_reducible (first | refine aw_reg_d P_mixed ?_ | refine ar_done ?_ | refine aw_seq ?_ | refine aw_reg ?_ | refine aw_block ?_ | refine aw_skip ?_ | refine aw_exit ?_ | refine aw_ret ?_ | refine at_n ?_ | refine at_e ?_ | refine at_r ?_ | refine ab_n ?_ | refine ab_r ?_ | refine ab_e ?_ | refine ab_ne rfl ?_ | refine an_e ?_ | refine an_r ?_ | refine am_e ?_ | refine am_r ?_) | ((with_reducible apply aw_cond_f); (focus (simp only [go_sem, Nat.reduceLT, Nat.reduceAdd, Nat.reduceLeDiff, Nat.reduceMul, Nat.reduceEqDiff, Nat.reduceBEq, reduceIte, encs_get, encs_len, enc_len, enc_take, enc_frz, enc_all, strs_get, strs_len] <;> rfl))) | ((with_reducible apply aw_cond_t); (focus (simp only [go_sem, Nat.reduceLT, Nat.reduceAdd, Nat.reduceLeDiff, Nat.reduceMul, Nat.reduceEqDiff, Nat.reduceBEq, reduceIte, encs_get, encs_len, enc_len, enc_take, enc_frz, enc_all, strs_get, strs_len] <;> rfl))) | ((with_reducible apply aw_cond_d); (focus (simp only [go_sem, Nat.reduceLT, Nat.reduceAdd, Nat.reduceLeDiff, Nat.reduceMul, Nat.reduceEqDiff, Nat.reduceBEq, reduceIte, encs_get, encs_len, enc_len, enc_take, enc_frz, enc_all, strs_get, strs_len] <;> rfl)); all_goals (intro hcond; try (exfalso; omega))) | ((with_reducible first | apply ae_r | apply ae_n); (focus (simp only [go_sem, Nat.reduceLT, Nat.reduceAdd, Nat.reduceLeDiff, Nat.reduceMul, Nat.reduceEqDiff, Nat.reduceBEq, reduceIte, encs_get, encs_len, enc_len, enc_take, enc_frz, enc_all, strs_get, strs_len] <;> rfl))) | ((with_reducible apply ard_done); (focus rfl)))
        refine anextm 5 _ _ (k' := l.length - 1) (by omega) (by simp) ?_ ?_ ?_ ?_ ?_ ⟨1, by omega, rfl, rfl, .inr ⟨by omega, rfl⟩⟩
        · simp [subP, Env.get, Weak.refl]
        · rfl
        · rw [show encs (l.take 1) = [(l.getD 0 default).enc] from by simpa [encs] using htake]
          exact ⟨.refl _, .refl _, .refl _, .dead _, .refl _, trivial⟩
        · rfl
        · rfl
      · repeat' (first | ((with_reducible first | apply ar_w T_ok | apply ar_w0 T_ok | apply ard_w T_ok | apply ard_w0 T_ok); (focus (simp (disch := omega) only [go_sem, Nat.reduceLT, Nat.reduceAdd, Nat.reduceLeDiff, Nat.reduceMul, Nat.reduceEqDiff, Nat.reduceBEq, reduceIte, encs_get, encs_len, enc_len, enc_take, enc_frz, enc_all, strs_get, strs_len] <;> rfl)); (focus (first | rfl | (simp [okIdsB, Nat.ble_eq]; done))); (focus rfl); (focus (first | trivial | (simp only [preOK]; omega) | exact ⟨by first | trivial | rfl | omega, by assumption, by omega⟩ | (simp [preOK, AllBytes, encs_get, encs_len, enc_len, enc_take, enc_frz, enc_all, strs_get, strs_len]; first | done | omega))); (focus (simp only [encs_get, encs_len, enc_len, enc_take, enc_frz, enc_all, strs_get, strs_len, Heap.puts, Heap.put_app, Heap.put_app0, Heap.put_len, Heap.put, List.length_append, List.length_cons, List.length_nil, Nat.zero_add, Nat.reduceAdd] <;> rfl))) | with_reducible (first | refine aw_reg_d P_mixed ?_ | refine ar_done ?_ | refine aw_seq ?_ | refine aw_reg ?_ | refine aw_block ?_ | refine aw_skip ?_ | refine aw_exit ?_ | refine aw_ret ?_ | refine at_n ?_ | refine at_e ?_ | refine at_r ?_ | refine ab_n ?_ | refine ab_r ?_ | refine ab_e ?_ | refine ab_ne rfl ?_ | refine an_e ?_ | refine an_r ?_ | refine am_e ?_ | refine am_r ?_) | ((with_reducible apply aw_cond_f); (focus (simp only [go_sem, Nat.reduceLT, Nat.reduceAdd, Nat.reduceLeDiff, Nat.reduceMul, Nat.reduceEqDiff, Nat.reduceBEq, reduceIte, encs_get, encs_len, enc_len, enc_take, enc_frz, enc_all, strs_get, strs_len] <;> rfl))) | ((with_reducible apply aw_cond_t); (focus (simp only [go_sem, Nat.reduceLT, Nat.reduceAdd, Nat.reduceLeDiff, Nat.reduceMul, Nat.reduceEqDiff, Nat.reduceBEq, reduceIte, encs_get, encs_len, enc_len, enc_take, enc_frz, enc_all, strs_get, strs_len] <;> rfl))) | ((with_reducible apply aw_cond_d); (focus (simp only [go_sem, Nat.reduceLT, Nat.reduceAdd, Nat.reduceLeDiff, Nat.reduceMul, Nat.reduceEqDiff, Nat.reduceBEq, reduceIte, encs_get, encs_len, enc_len, enc_take, enc_frz, enc_all, strs_get, strs_len] <;> rfl)); all_goals (intro hcond; try (exfalso; omega))) | ((with_reducible first | apply ae_r | apply ae_n); (focus (simp only [go_sem, Nat.reduceLT, Nat.reduceAdd, Nat.reduceLeDiff, Nat.reduceMul, Nat.reduceEqDiff, Nat.reduceBEq, reduceIte, encs_get, encs_len, enc_len, enc_take, enc_frz, enc_all, strs_get, strs_len] <;> rfl))) | ((with_reducible apply ard_done); (focus rfl)))
        ((apply ard_call rfl ok_67); (focus (simp only [go_sem, Nat.reduceLT, Nat.reduceAdd, Nat.reduceLeDiff, Nat.reduceMul, Nat.reduceEqDiff, Nat.reduceBEq, reduceIte, encs_get, encs_len, enc_len, enc_take, enc_frz, enc_all, strs_get, strs_len, List.map] <;> rfl)); (focus exact ih _ (by simp only [GV.size]; omega) hff); (focus rfl); (focus rfl))
        repeat' (first | ((with_reducible first | apply ar_w T_ok | apply ar_w0 T_ok | apply ard_w T_ok | apply ard_w0 T_ok); (focus (simp (disch := omega) only [go_sem, Nat.reduceLT, Nat.reduceAdd, Nat.reduceLeDiff, Nat.reduceMul, Nat.reduceEqDiff, Nat.reduceBEq, reduceIte, encs_get, encs_len, enc_len, enc_take, enc_frz, enc_all, strs_get, strs_len] <;> rfl)); (focus (first | rfl | (simp [okIdsB, Nat.ble_eq]; done))); (focus rfl); (focus (first | trivial | (simp only [preOK]; omega) | exact ⟨by first | trivial | rfl | omega, by assumption, by omega⟩ | (simp [preOK, AllBytes, encs_get, encs_len, enc_len, enc_take, enc_frz, enc_all, strs_get, strs_len]; first | done | omega))); (focus (simp only [encs_get, encs_len, enc_len, enc_take, enc_frz, enc_all, strs_get, strs_len, Heap.puts, Heap.put_app, Heap.put_app0, Heap.put_len, Heap.put, List.length_append, List.length_cons, List.length_nil, Nat.zero_add, Nat.reduceAdd] <;> rfl))) | with_reducible (first | refine aw_reg_d P_mixed ?_ | refine ar_done ?_ | refine aw_seq ?_ | refine aw_reg ?_ | refine aw_block ?_ | refine aw_skip ?_ | refine aw_exit ?_ | refine aw_ret ?_ | refine at_n ?_ | refine at_e ?_ | refine at_r ?_ | refine ab_n ?_ | refine ab_r ?_ | refine ab_e ?_ | refine ab_ne rfl ?_ | refine an_e ?_ | refine an_r ?_ | refine am_e ?_ | refine am_r ?_) | ((with_reducible apply aw_cond_f); (focus (simp only [go_sem, Nat.reduceLT, Nat.reduceAdd, Nat.reduceLeDiff, Nat.reduceMul, Nat.reduceEqDiff, Nat.reduceBEq, reduceIte, encs_get, encs_len, enc_len, enc_take, enc_frz, enc_all, strs_get, strs_len] <;> rfl))) | ((with_reducible apply aw_cond_t); (focus (simp only [go_sem, Nat.reduceLT, Nat.reduceAdd, Nat.reduceLeDiff, Nat.reduceMul, Nat.reduceEqDiff, Nat.reduceBEq, reduceIte, encs_get, encs_len, enc_len, enc_take, enc_frz, enc_all, strs_get, strs_len] <;> rfl))) | ((with_reducible apply aw_cond_d); (focus (simp only [go_sem, Nat.reduceLT, Nat.reduceAdd, Nat.reduceLeDiff, Nat.reduceMul, Nat.reduceEqDiff, Nat.reduceBEq, reduceIte, encs_get, encs_len, enc_len, enc_take, enc_frz, enc_all, strs_get, strs_len] <;> rfl)); all_goals (intro hcond; try (exfalso; omega))) | ((with_reducible first | apply ae_r | apply ae_n); (focus (simp only [go_sem, Nat.reduceLT, Nat.reduceAdd, Nat.reduceLeDiff, Nat.reduceMul, Nat.reduceEqDiff, Nat.reduceBEq, reduceIte, encs_get, encs_len, enc_len, enc_take, enc_frz, enc_all, strs_get, strs_len] <;> rfl))) | ((with_reducible apply ard_done); (focus rfl)))
        refine anextm 5 _ _ (k' := l.length - (i + 1)) (by omega) (by simp) ?_ ?_ ?_ ?_ ?_ ⟨i + 1, by omega, rfl, rfl, .inr ⟨by omega, rfl⟩⟩
        · simp [subP, Env.get, Weak.refl]
        · rfl
        · rw [htake]
          exact ⟨.refl _, .refl _, .refl _, .dead _, .refl _, trivial⟩
        · rfl
        · rfl
    · have : i = l.length := by omega
      subst this
      rcases hH with ⟨h0, rfl⟩ | ⟨hpos, rfl⟩
      · repeat' (first | ((with_reducible first | apply ar_w T_ok | apply ar_w0 T_ok | apply ard_w T_ok | apply ard_w0 T_ok); (focus (simp (disch := omega) only [go_sem, Nat.reduceLT, Nat.reduceAdd, Nat.reduceLeDiff, Nat.reduceMul, Nat.reduceEqDiff, Nat.reduceBEq, reduceIte, encs_get, encs_len, enc_len, enc_take, enc_frz, enc_all, strs_get, strs_len] <;> rfl)); (focus (first | rfl | (simp [okIdsB, Nat.ble_eq]; done))); (focus rfl); (focus (first | trivial | (simp only [preOK]; omega) | exact ⟨by first | trivial | rfl | omega, by assumption, by omega⟩ | (simp [preOK, AllBytes, encs_get, encs_len, enc_len, enc_take, enc_frz, enc_all, strs_get, strs_len]; first | done | omega))); (focus (simp only [encs_get, encs_len, enc_len, enc_take, enc_frz, enc_all, strs_get, strs_len, Heap.puts, Heap.put_app, Heap.put_app0, Heap.put_len, Heap.put, List.length_append, List.length_cons, List.length_nil, Nat.zero_add, Nat.reduceAdd] <;> rfl))) | with_reducible (first | refine aw_reg_d P_mixed ?_ | refine ar_done ?_ | refine aw_seq ?_ | refine aw_reg ?_ | refine aw_block ?_ | refine aw_skip ?_ | refine aw_exit ?_ | refine aw_ret ?_ | refine at_n ?_ | refine at_e ?_ | refine at_r ?_ | refine ab_n ?_ | refine ab_r ?_ | refine ab_e ?_ | refine ab_ne rfl ?_ | refine an_e ?_ | refine an_r ?_ | refine am_e ?_ | refine am_r ?_) | ((with_reducible apply aw_cond_f); (focus (simp only [go_sem, Nat.reduceLT, Nat.reduceAdd, Nat.reduceLeDiff, Nat.reduceMul, Nat.reduceEqDiff, Nat.reduceBEq, reduceIte, encs_get, encs_len, enc_len, enc_take, enc_frz, enc_all, strs_get, strs_len] <;> rfl))) | ((with_reducible apply aw_cond_t); (focus (simp only [go_sem, Nat.reduceLT, Nat.reduceAdd, Nat.reduceLeDiff, Nat.reduceMul, Nat.reduceEqDiff, Nat.reduceBEq, reduceIte, encs_get, encs_len, enc_len, enc_take, enc_frz, enc_all, strs_get, strs_len] <;> rfl))) | ((with_reducible apply aw_cond_d); (focus (simp only [go_sem, Nat.reduceLT, Nat.reduceAdd, Nat.reduceLeDiff, Nat.reduceMul, Nat.reduceEqDiff, Nat.reduceBEq, reduceIte, encs_get, encs_len, enc_len, enc_take, enc_frz, enc_all, strs_get, strs_len] <;> rfl)); all_goals (intro hcond; try (exfalso; omega))) | ((with_reducible first | apply ae_r | apply ae_n); (focus (simp only [go_sem, Nat.reduceLT, Nat.reduceAdd, Nat.reduceLeDiff, Nat.reduceMul, Nat.reduceEqDiff, Nat.reduceBEq, reduceIte, encs_get, encs_len, enc_len, enc_take, enc_frz, enc_all, strs_get, strs_len] <;> rfl))) | ((with_reducible apply ard_done); (focus rfl)))
        have hl : l = [] := List.eq_nil_of_length_eq_zero h0
        subst hl
        refine amid 3 _ _ (by simp) ?_ ?_ ?_ ?_ ?_ ⟨rfl, rfl⟩
        · simp [subP, Env.get, Weak.refl]
        · rfl
        · exact ⟨.refl _, .refl _, .one rfl ⟨.refl _, .refl _, .refl _, .frz _ _ rfl, .refl _, trivial⟩, trivial⟩
        · rfl
        · rfl
      · repeat' (first | ((with_reducible first | apply ar_w T_ok | apply ar_w0 T_ok | apply ard_w T_ok | apply ard_w0 T_ok); (focus (simp (disch := omega) only [go_sem, Nat.reduceLT, Nat.reduceAdd, Nat.reduceLeDiff, Nat.reduceMul, Nat.reduceEqDiff, Nat.reduceBEq, reduceIte, encs_get, encs_len, enc_len, enc_take, enc_frz, enc_all, strs_get, strs_len] <;> rfl)); (focus (first | rfl | (simp [okIdsB, Nat.ble_eq]; done))); (focus rfl); (focus (first | trivial | (simp only [preOK]; omega) | exact ⟨by first | trivial | rfl | omega, by assumption, by omega⟩ | (simp [preOK, AllBytes, encs_get, encs_len, enc_len, enc_take, enc_frz, enc_all, strs_get, strs_len]; first | done | omega))); (focus (simp only [encs_get, encs_len, enc_len, enc_take, enc_frz, enc_all, strs_get, strs_len, Heap.puts, Heap.put_app, Heap.put_app0, Heap.put_len, Heap.put, List.length_append, List.length_cons, List.length_nil, Nat.zero_add, Nat.reduceAdd] <;> rfl))) | with_reducible (first | refine aw_reg_d P_mixed ?_ | refine ar_done ?_ | refine aw_seq ?_ | refine aw_reg ?_ | refine aw_block ?_ | refine aw_skip ?_ | refine aw_exit ?_ | refine aw_ret ?_ | refine at_n ?_ | refine at_e ?_ | refine at_r ?_ | refine ab_n ?_ | refine ab_r ?_ | refine ab_e ?_ | refine ab_ne rfl ?_ | refine an_e ?_ | refine an_r ?_ | refine am_e ?_ | refine am_r ?_) | ((with_reducible apply aw_cond_f); (focus (simp only [go_sem, Nat.reduceLT, Nat.reduceAdd, Nat.reduceLeDiff, Nat.reduceMul, Nat.reduceEqDiff, Nat.reduceBEq, reduceIte, encs_get, encs_len, enc_len, enc_take, enc_frz, enc_all, strs_get, strs_len] <;> rfl))) | ((with_reducible apply aw_cond_t); (focus (simp only [go_sem, Nat.reduceLT, Nat.reduceAdd, Nat.reduceLeDiff, Nat.reduceMul, Nat.reduceEqDiff, Nat.reduceBEq, reduceIte, encs_get, encs_len, enc_len, enc_take, enc_frz, enc_all, strs_get, strs_len] <;> rfl))) | ((with_reducible apply aw_cond_d); (focus (simp only [go_sem, Nat.reduceLT, Nat.reduceAdd, Nat.reduceLeDiff, Nat.reduceMul, Nat.reduceEqDiff, Nat.reduceBEq, reduceIte, encs_get, encs_len, enc_len, enc_take, enc_frz, enc_all, strs_get, strs_len] <;> rfl)); all_goals (intro hcond; try (exfalso; omega))) | ((with_reducible first | apply ae_r | apply ae_n); (focus (simp only [go_sem, Nat.reduceLT, Nat.reduceAdd, Nat.reduceLeDiff, Nat.reduceMul, Nat.reduceEqDiff, Nat.reduceBEq, reduceIte, encs_get, encs_len, enc_len, enc_take, enc_frz, enc_all, strs_get, strs_len] <;> rfl))) | ((with_reducible apply ard_done); (focus rfl)))
        simp only [List.take_length]
        refine amid 3 _ _ (by simp) ?_ ?_ ?_ ?_ ?_ ⟨rfl, rfl⟩
        · simp [subP, Env.get, Weak.refl]
        · rfl
        · exact ⟨.refl _, .refl _, .one rfl ⟨.refl _, .refl _, .refl _, .frz _ _ rfl, .refl _, trivial⟩, trivial⟩
        · rfl
        · rfl
  · rintro _ _ ⟨rfl, rfl⟩
    refine aw_seq_mid (fun env H => env = [(1, .ptr 0 0 0), (2, .ptr 1 0 0), (3, .ptr 2 0 0)] ∧ H = [.row 5 [[.int .i64 k, .int .i64 n, .str t, .fsl 5 (encs l), .fsl 1 (strs ns)]], .row 5 [[.int .i64 0, .int .i64 0, .str [], .nsl 5, .nsl 1]], .row 5 [[.int .i64 k, .int .i64 n, .str t, .fsl 5 (encs l), .fsl 1 (strs ns)]]]) ?_ ?_
    · repeat' (first | ((with_reducible first | apply ar_w T_ok | apply ar_w0 T_ok | apply ard_w T_ok | apply ard_w0 T_ok); (focus (simp (disch := omega) only [go_sem, Nat.reduceLT, Nat.reduceAdd, Nat.reduceLeDiff, Nat.reduceMul, Nat.reduceEqDiff, Nat.reduceBEq, reduceIte, encs_get, encs_len, enc_len, enc_take, enc_frz, enc_all, strs_get, strs_len] <;> rfl)); (focus (first | rfl | (simp [okIdsB, Nat.ble_eq]; done))); (focus rfl); (focus (first | trivial | (simp only [preOK]; omega) | exact ⟨by first | trivial | rfl | omega, by assumption, by omega⟩ | (simp [preOK, AllBytes, encs_get, encs_len, enc_len, enc_take, enc_frz, enc_all, strs_get, strs_len]; first | done | omega))); (focus (simp only [encs_get, encs_len, enc_len, enc_take, enc_frz, enc_all, strs_get, strs_len, Heap.puts, Heap.put_app, Heap.put_app0, Heap.put_len, Heap.put, List.length_append, List.length_cons, List.length_nil, Nat.zero_add, Nat.reduceAdd] <;> rfl))) | with_reducible (first | refine aw_reg_d P_mixed ?_ | refine ar_done ?_ | refine aw_seq ?_ | refine aw_reg ?_ | refine aw_block ?_ | refine aw_skip ?_ | refine aw_exit ?_ | refine aw_ret ?_ | refine at_n ?_ | refine at_e ?_ | refine at_r ?_ | refine ab_n ?_ | refine ab_r ?_ | refine ab_e ?_ | refine ab_ne rfl ?_ | refine an_e ?_ | refine an_r ?_ | refine am_e ?_ | refine am_r ?_) | ((with_reducible apply aw_cond_f); (focus (simp only [go_sem, Nat.reduceLT, Nat.reduceAdd, Nat.reduceLeDiff, Nat.reduceMul, Nat.reduceEqDiff, Nat.reduceBEq, reduceIte, encs_get, encs_len, enc_len, enc_take, enc_frz, enc_all, strs_get, strs_len] <;> rfl))) | ((with_reducible apply aw_cond_t); (focus (simp only [go_sem, Nat.reduceLT, Nat.reduceAdd, Nat.reduceLeDiff, Nat.reduceMul, Nat.reduceEqDiff, Nat.reduceBEq, reduceIte, encs_get, encs_len, enc_len, enc_take, enc_frz, enc_all, strs_get, strs_len] <;> rfl))) | ((with_reducible apply aw_cond_d); (focus (simp only [go_sem, Nat.reduceLT, Nat.reduceAdd, Nat.reduceLeDiff, Nat.reduceMul, Nat.reduceEqDiff, Nat.reduceBEq, reduceIte, encs_get, encs_len, enc_len, enc_take, enc_frz, enc_all, strs_get, strs_len] <;> rfl)); all_goals (intro hcond; try (exfalso; omega))) | ((with_reducible first | apply ae_r | apply ae_n); (focus (simp only [go_sem, Nat.reduceLT, Nat.reduceAdd, Nat.reduceLeDiff, Nat.reduceMul, Nat.reduceEqDiff, Nat.reduceBEq, reduceIte, encs_get, encs_len, enc_len, enc_take, enc_frz, enc_all, strs_get, strs_len] <;> rfl))) | ((with_reducible apply ard_done); (focus rfl)))
      refine aw_loopc (fun kk env H => ∃ i : Nat, i ≤ ns.length ∧ kk = ns.length - i ∧ env = [(1, .ptr 0 0 0), (2, .ptr 1 0 0), (3, .ptr 2 0 0), (5, .int .i64 i)] ∧
        ((i = 0 ∧ H = [.row 5 [[.int .i64 k, .int .i64 n, .str t, .fsl 5 (encs l), .fsl 1 (strs ns)]], .row 5 [[.int .i64 0, .int .i64 0, .str [], .nsl 5, .nsl 1]], .row 5 [[.int .i64 k, .int .i64 n, .str t, .fsl 5 (encs l), .nsl 1]]]) ∨
         (0 < i ∧ H = [.row 5 [[.int .i64 k, .int .i64 n, .str t, .fsl 5 (encs l), .fsl 1 (strs ns)]], .row 5 [[.int .i64 0, .int .i64 0, .str [], .nsl 5, .nsl 1]], .row 5 [[.int .i64 k, .int .i64 n, .str t, .fsl 5 (encs l), .asl 4 i 1 (strs (ns.take i))]], .dead, .tok i]))) ns.length
        [(1, .ptr 0 0 0), (2, .ptr 1 0 0), (3, .ptr 2 0 0), (5, .int .i64 0)] _ (by simp [subP, Env.get, Weak.refl]) rfl (heapW_refl _) rfl rfl ⟨0, Nat.zero_le _, rfl, rfl, .inl ⟨rfl, rfl⟩⟩ ?_
      rintro kk env H ⟨i, hi, hk, rfl, hH⟩
      by_cases hlt : i < ns.length
      · have htake := strs_take hlt
        rcases hH with ⟨rfl, rfl⟩ | ⟨hpos, rfl⟩
        · repeat' (first | ((with_reducible first | apply ar_w T_ok | apply ar_w0 T_ok | apply ard_w T_ok | apply ard_w0 T_ok); (focus (simp (disch := omega) only [go_sem, Nat.reduceLT, Nat.reduceAdd, Nat.reduceLeDiff, Nat.reduceMul, Nat.reduceEqDiff, Nat.reduceBEq, reduceIte, encs_get, encs_len, enc_len, enc_take, enc_frz, enc_all, strs_get, strs_len] <;> rfl)); (focus (first | rfl | (simp [okIdsB, Nat.ble_eq]; done))); (focus rfl); (focus (first | trivial | (simp only [preOK]; omega) | exact ⟨by first | trivial | rfl | omega, by assumption, by omega⟩ | (simp [preOK, AllBytes, encs_get, encs_len, enc_len, enc_take, enc_frz, enc_all, strs_get, strs_len]; first | done | omega))); (focus (simp only [encs_get, encs_len, enc_len, enc_take, enc_frz, enc_all, strs_get, strs_len, Heap.puts, Heap.put_app, Heap.put_app0, Heap.put_len, Heap.put, List.length_append, List.length_cons, List.length_nil, Nat.zero_add, Nat.reduceAdd] <;> rfl))) | with_reducible (first | refine aw_reg_d P_mixed ?_ | refine ar_done ?_ | refine aw_seq ?_ | refine aw_reg ?_ | refine aw_block ?_ | refine aw_skip ?_ | refine aw_exit ?_ | refine aw_ret ?_ | refine at_n ?_ | refine at_e ?_ | refine at_r ?_ | refine ab_n ?_ | refine ab_r ?_ | refine ab_e ?_ | refine ab_ne rfl ?_ | refine an_e ?_ | refine an_r ?_ | refine am_e ?_ | refine am_r ?_) | ((with_reducible apply aw_cond_f); (focus (simp only [go_sem, Nat.reduceLT, Nat.reduceAdd, Nat.reduceLeDiff, Nat.reduceMul, Nat.reduceEqDiff, Nat.reduceBEq, reduceIte, encs_get, encs_len, enc_len, enc_take, enc_frz, enc_all, strs_get, strs_len] <;> rfl))) | ((with_reducible apply aw_cond_t); (focus (simp only [go_sem, Nat.reduceLT, Nat.reduceAdd, Nat.reduceLeDiff, Nat.reduceMul, Nat.reduceEqDiff, Nat.reduceBEq, reduceIte, encs_get, encs_len, enc_len, enc_take, enc_frz, enc_all, strs_get, strs_len] <;> rfl))) | ((with_reducible apply aw_cond_d); (focus (simp only [go_sem, Nat.reduceLT, Nat.reduceAdd, Nat.reduceLeDiff, Nat.reduceMul, Nat.reduceEqDiff, Nat.reduceBEq, reduceIte, encs_get, encs_len, enc_len, enc_take, enc_frz, enc_all, strs_get, strs_len] <;> rfl)); all_goals (intro hcond; try (exfalso; omega))) | ((with_reducible first | apply ae_r | apply ae_n); (focus (simp only [go_sem, Nat.reduceLT, Nat.reduceAdd, Nat.reduceLeDiff, Nat.reduceMul, Nat.reduceEqDiff, Nat.reduceBEq, reduceIte, encs_get, encs_len, enc_len, enc_take, enc_frz, enc_all, strs_get, strs_len] <;> rfl))) | ((with_reducible apply ard_done); (focus rfl)))
          refine anextm 5 _ _ (k' := ns.length - 1) (by omega) (by simp) ?_ ?_ ?_ ?_ ?_ ⟨1, by omega, rfl, rfl, .inr ⟨by omega, rfl⟩⟩
          · simp [subP, Env.get, Weak.refl]
          · rfl
          · rw [show strs (ns.take 1) = [[.str (ns.getD 0 [])]] from by simpa [strs] using htake]
            exact ⟨.refl _, .refl _, .refl _, .dead _, .refl _, trivial⟩
          · rfl
          · rfl
        · repeat' (first | ((with_reducible first | apply ar_w T_ok | apply ar_w0 T_ok | apply ard_w T_ok | apply ard_w0 T_ok); (focus (simp (disch := omega) only [go_sem, Nat.reduceLT, Nat.reduceAdd, Nat.reduceLeDiff, Nat.reduceMul, Nat.reduceEqDiff, Nat.reduceBEq, reduceIte, encs_get, encs_len, enc_len, enc_take, enc_frz, enc_all, strs_get, strs_len] <;> rfl)); (focus (first | rfl | (simp [okIdsB, Nat.ble_eq]; done))); (focus rfl); (focus (first | trivial | (simp only [preOK]; omega) | exact ⟨by first | trivial | rfl | omega, by assumption, by omega⟩ | (simp [preOK, AllBytes, encs_get, encs_len, enc_len, enc_take, enc_frz, enc_all, strs_get, strs_len]; first | done | omega))); (focus (simp only [encs_get, encs_len, enc_len, enc_take, enc_frz, enc_all, strs_get, strs_len, Heap.puts, Heap.put_app, Heap.put_app0, Heap.put_len, Heap.put, List.length_append, List.length_cons, List.length_nil, Nat.zero_add, Nat.reduceAdd] <;> rfl))) | with_reducible (first | refine aw_reg_d P_mixed ?_ | refine ar_done ?_ | refine aw_seq ?_ | refine aw_reg ?_ | refine aw_block ?_ | refine aw_skip ?_ | refine aw_exit ?_ | refine aw_ret ?_ | refine at_n ?_ | refine at_e ?_ | refine at_r ?_ | refine ab_n ?_ | refine ab_r ?_ | refine ab_e ?_ | refine ab_ne rfl ?_ | refine an_e ?_ | refine an_r ?_ | refine am_e ?_ | refine am_r ?_) | ((with_reducible apply aw_cond_f); (focus (simp only [go_sem, Nat.reduceLT, Nat.reduceAdd, Nat.reduceLeDiff, Nat.reduceMul, Nat.reduceEqDiff, Nat.reduceBEq, reduceIte, encs_get, encs_len, enc_len, enc_take, enc_frz, enc_all, strs_get, strs_len] <;> rfl))) | ((with_reducible apply aw_cond_t); (focus (simp only [go_sem, Nat.reduceLT, Nat.reduceAdd, Nat.reduceLeDiff, Nat.reduceMul, Nat.reduceEqDiff, Nat.reduceBEq, reduceIte, encs_get, encs_len, enc_len, enc_take, enc_frz, enc_all, strs_get, strs_len] <;> rfl))) | ((with_reducible apply aw_cond_d); (focus (simp only [go_sem, Nat.reduceLT, Nat.reduceAdd, Nat.reduceLeDiff, Nat.reduceMul, Nat.reduceEqDiff, Nat.reduceBEq, reduceIte, encs_get, encs_len, enc_len, enc_take, enc_frz, enc_all, strs_get, strs_len] <;> rfl)); all_goals (intro hcond; try (exfalso; omega))) | ((with_reducible first | apply ae_r | apply ae_n); (focus (simp only [go_sem, Nat.reduceLT, Nat.reduceAdd, Nat.reduceLeDiff, Nat.reduceMul, Nat.reduceEqDiff, Nat.reduceBEq, reduceIte, encs_get, encs_len, enc_len, enc_take, enc_frz, enc_all, strs_get, strs_len] <;> rfl))) | ((with_reducible apply ard_done); (focus rfl)))
          refine anextm 5 _ _ (k' := ns.length - (i + 1)) (by omega) (by simp) ?_ ?_ ?_ ?_ ?_ ⟨i + 1, by omega, rfl, rfl, .inr ⟨by omega, rfl⟩⟩
          · simp [subP, Env.get, Weak.refl]
          · rfl
          · rw [htake]
            exact ⟨.refl _, .refl _, .refl _, .dead _, .refl _, trivial⟩
          · rfl
          · rfl
      · have : i = ns.length := by omega
        subst this
        rcases hH with ⟨h0, rfl⟩ | ⟨hpos, rfl⟩
        · repeat' (first | ((with_reducible first | apply ar_w T_ok | apply ar_w0 T_ok | apply ard_w T_ok | apply ard_w0 T_ok); (focus (simp (disch := omega) only [go_sem, Nat.reduceLT, Nat.reduceAdd, Nat.reduceLeDiff, Nat.reduceMul, Nat.reduceEqDiff, Nat.reduceBEq, reduceIte, encs_get, encs_len, enc_len, enc_take, enc_frz, enc_all, strs_get, strs_len] <;> rfl)); (focus (first | rfl | (simp [okIdsB, Nat.ble_eq]; done))); (focus rfl); (focus (first | trivial | (simp only [preOK]; omega) | exact ⟨by first | trivial | rfl | omega, by assumption, by omega⟩ | (simp [preOK, AllBytes, encs_get, encs_len, enc_len, enc_take, enc_frz, enc_all, strs_get, strs_len]; first | done | omega))); (focus (simp only [encs_get, encs_len, enc_len, enc_take, enc_frz, enc_all, strs_get, strs_len, Heap.puts, Heap.put_app, Heap.put_app0, Heap.put_len, Heap.put, List.length_append, List.length_cons, List.length_nil, Nat.zero_add, Nat.reduceAdd] <;> rfl))) | with_reducible (first | refine aw_reg_d P_mixed ?_ | refine ar_done ?_ | refine aw_seq ?_ | refine aw_reg ?_ | refine aw_block ?_ | refine aw_skip ?_ | refine aw_exit ?_ | refine aw_ret ?_ | refine at_n ?_ | refine at_e ?_ | refine at_r ?_ | refine ab_n ?_ | refine ab_r ?_ | refine ab_e ?_ | refine ab_ne rfl ?_ | refine an_e ?_ | refine an_r ?_ | refine am_e ?_ | refine am_r ?_) | ((with_reducible apply aw_cond_f); (focus (simp only [go_sem, Nat.reduceLT, Nat.reduceAdd, Nat.reduceLeDiff, Nat.reduceMul, Nat.reduceEqDiff, Nat.reduceBEq, reduceIte, encs_get, encs_len, enc_len, enc_take, enc_frz, enc_all, strs_get, strs_len] <;> rfl))) | ((with_reducible apply aw_cond_t); (focus (simp only [go_sem, Nat.reduceLT, Nat.reduceAdd, Nat.reduceLeDiff, Nat.reduceMul, Nat.reduceEqDiff, Nat.reduceBEq, reduceIte, encs_get, encs_len, enc_len, enc_take, enc_frz, enc_all, strs_get, strs_len] <;> rfl))) | ((with_reducible apply aw_cond_d); (focus (simp only [go_sem, Nat.reduceLT, Nat.reduceAdd, Nat.reduceLeDiff, Nat.reduceMul, Nat.reduceEqDiff, Nat.reduceBEq, reduceIte, encs_get, encs_len, enc_len, enc_take, enc_frz, enc_all, strs_get, strs_len] <;> rfl)); all_goals (intro hcond; try (exfalso; omega))) | ((with_reducible first | apply ae_r | apply ae_n); (focus (simp only [go_sem, Nat.reduceLT, Nat.reduceAdd, Nat.reduceLeDiff, Nat.reduceMul, Nat.reduceEqDiff, Nat.reduceBEq, reduceIte, encs_get, encs_len, enc_len, enc_take, enc_frz, enc_all, strs_get, strs_len] <;> rfl))) | ((with_reducible apply ard_done); (focus rfl)))
          have hl : ns = [] := List.eq_nil_of_length_eq_zero h0
          subst hl
          refine amid 3 _ _ (by simp) ?_ ?_ ?_ ?_ ?_ ⟨rfl, rfl⟩
          · simp [subP, Env.get, Weak.refl]
          · rfl
          · exact ⟨.refl _, .refl _, .one rfl ⟨.refl _, .refl _, .refl _, .refl _, .frz _ _ rfl, trivial⟩, trivial⟩
          · rfl
          · rfl
        · repeat' (first | ((with_reducible first | apply ar_w T_ok | apply ar_w0 T_ok | apply ard_w T_ok | apply ard_w0 T_ok); (focus (simp (disch := omega) only [go_sem, Nat.reduceLT, Nat.reduceAdd, Nat.reduceLeDiff, Nat.reduceMul, Nat.reduceEqDiff, Nat.reduceBEq, reduceIte, encs_get, encs_len, enc_len, enc_take, enc_frz, enc_all, strs_get, strs_len] <;> rfl)); (focus (first | rfl | (simp [okIdsB, Nat.ble_eq]; done))); (focus rfl); (focus (first | trivial | (simp only [preOK]; omega) | exact ⟨by first | trivial | rfl | omega, by assumption, by omega⟩ | (simp [preOK, AllBytes, encs_get, encs_len, enc_len, enc_take, enc_frz, enc_all, strs_get, strs_len]; first | done | omega))); (focus (simp only [encs_get, encs_len, enc_len, enc_take, enc_frz, enc_all, strs_get, strs_len, Heap.puts, Heap.put_app, Heap.put_app0, Heap.put_len, Heap.put, List.length_append, List.length_cons, List.length_nil, Nat.zero_add, Nat.reduceAdd] <;> rfl))) | with_reducible (first | refine aw_reg_d P_mixed ?_ | refine ar_done ?_ | refine aw_seq ?_ | refine aw_reg ?_ | refine aw_block ?_ | refine aw_skip ?_ | refine aw_exit ?_ | refine aw_ret ?_ | refine at_n ?_ | refine at_e ?_ | refine at_r ?_ | refine ab_n ?_ | refine ab_r ?_ | refine ab_e ?_ | refine ab_ne rfl ?_ | refine an_e ?_ | refine an_r ?_ | refine am_e ?_ | refine am_r ?_) | ((with_reducible apply aw_cond_f); (focus (simp only [go_sem, Nat.reduceLT, Nat.reduceAdd, Nat.reduceLeDiff, Nat.reduceMul, Nat.reduceEqDiff, Nat.reduceBEq, reduceIte, encs_get, encs_len, enc_len, enc_take, enc_frz, enc_all, strs_get, strs_len] <;> rfl))) | ((with_reducible apply aw_cond_t); (focus (simp only [go_sem, Nat.reduceLT, Nat.reduceAdd, Nat.reduceLeDiff, Nat.reduceMul, Nat.reduceEqDiff, Nat.reduceBEq, reduceIte, encs_get, encs_len, enc_len, enc_take, enc_frz, enc_all, strs_get, strs_len] <;> rfl))) | ((with_reducible apply aw_cond_d); (focus (simp only [go_sem, Nat.reduceLT, Nat.reduceAdd, Nat.reduceLeDiff, Nat.reduceMul, Nat.reduceEqDiff, Nat.reduceBEq, reduceIte, encs_get, encs_len, enc_len, enc_take, enc_frz, enc_all, strs_get, strs_len] <;> rfl)); all_goals (intro hcond; try (exfalso; omega))) | ((with_reducible first | apply ae_r | apply ae_n); (focus (simp only [go_sem, Nat.reduceLT, Nat.reduceAdd, Nat.reduceLeDiff, Nat.reduceMul, Nat.reduceEqDiff, Nat.reduceBEq, reduceIte, encs_get, encs_len, enc_len, enc_take, enc_frz, enc_all, strs_get, strs_len] <;> rfl))) | ((with_reducible apply ard_done); (focus rfl)))
          simp only [List.take_length]
          refine amid 3 _ _ (by simp) ?_ ?_ ?_ ?_ ?_ ⟨rfl, rfl⟩
          · simp [subP, Env.get, Weak.refl]
          · rfl
          · exact ⟨.refl _, .refl _, .one rfl ⟨.refl _, .refl _, .refl _, .refl _, .frz _ _ rfl, trivial⟩, trivial⟩
          · rfl
          · rfl
    · rintro _ _ ⟨rfl, rfl⟩
      repeat' (first | ((with_reducible first | apply ar_w T_ok | apply ar_w0 T_ok | apply ard_w T_ok | apply ard_w0 T_ok); (focus (simp (disch := omega) only [go_sem, Nat.reduceLT, Nat.reduceAdd, Nat.reduceLeDiff, Nat.reduceMul, Nat.reduceEqDiff, Nat.reduceBEq, reduceIte, encs_get, encs_len, enc_len, enc_take, enc_frz, enc_all, strs_get, strs_len] <;> rfl)); (focus (first | rfl | (simp [okIdsB, Nat.ble_eq]; done))); (focus rfl); (focus (first | trivial | (simp only [preOK]; omega) | exact ⟨by first | trivial | rfl | omega, by assumption, by omega⟩ | (simp [preOK, AllBytes, encs_get, encs_len, enc_len, enc_take, enc_frz, enc_all, strs_get, strs_len]; first | done | omega))); (focus (simp only [encs_get, encs_len, enc_len, enc_take, enc_frz, enc_all, strs_get, strs_len, Heap.puts, Heap.put_app, Heap.put_app0, Heap.put_len, Heap.put, List.length_append, List.length_cons, List.length_nil, Nat.zero_add, Nat.reduceAdd] <;> rfl))) | with_reducible (first | refine aw_reg_d P_mixed ?_ | refine ar_done ?_ | refine aw_seq ?_ | refine aw_reg ?_ | refine aw_block ?_ | refine aw_skip ?_ | refine aw_exit ?_ | refine aw_ret ?_ | refine at_n ?_ | refine at_e ?_ | refine at_r ?_ | refine ab_n ?_ | refine ab_r ?_ | refine ab_e ?_ | refine ab_ne rfl ?_ | refine an_e ?_ | refine an_r ?_ | refine am_e ?_ | refine am_r ?_) | ((with_reducible apply aw_cond_f); (focus (simp only [go_sem, Nat.reduceLT, Nat.reduceAdd, Nat.reduceLeDiff, Nat.reduceMul, Nat.reduceEqDiff, Nat.reduceBEq, reduceIte, encs_get, encs_len, enc_len, enc_take, enc_frz, enc_all, strs_get, strs_len] <;> rfl))) | ((with_reducible apply aw_cond_t); (focus (simp only [go_sem, Nat.reduceLT, Nat.reduceAdd, Nat.reduceLeDiff, Nat.reduceMul, Nat.reduceEqDiff, Nat.reduceBEq, reduceIte, encs_get, encs_len, enc_len, enc_take, enc_frz, enc_all, strs_get, strs_len] <;> rfl))) | ((with_reducible apply aw_cond_d); (focus (simp only [go_sem, Nat.reduceLT, Nat.reduceAdd, Nat.reduceLeDiff, Nat.reduceMul, Nat.reduceEqDiff, Nat.reduceBEq, reduceIte, encs_get, encs_len, enc_len, enc_take, enc_frz, enc_all, strs_get, strs_len] <;> rfl)); all_goals (intro hcond; try (exfalso; omega))) | ((with_reducible first | apply ae_r | apply ae_n); (focus (simp only [go_sem, Nat.reduceLT, Nat.reduceAdd, Nat.reduceLeDiff, Nat.reduceMul, Nat.reduceEqDiff, Nat.reduceBEq, reduceIte, encs_get, encs_len, enc_len, enc_take, enc_frz, enc_all, strs_get, strs_len] <;> rfl))) | ((with_reducible apply ard_done); (focus rfl)))
      rfl

theorem l1Copy_all : ∀ (N : Nat) (v : GV), v.size < N → v.fits → PCall P 67 [.agg v.enc] (.agg v.enc)
  | 0, v, h, _ => by omega
  | N + 1, v, h, hf => l1Copy_ok v hf fun u hu hf' => l1Copy_all N u (by omega) hf'
end Go.Av
set_option linter.unusedVariables false
set_option linter.unusedSimpArgs false
namespace Go.Av
open Go
set_option maxRecDepth 10000

theorem encn_take {l : List GN} {i : Nat} (h : i < l.length) : encn (l.take (i + 1)) = encn (l.take i) ++ [(l.getD i default).enc] := by
  rw [List.take_succ_eq_append_getElem h, encn, encn, List.map_append, List.getD_eq_getElem?_getD, List.getElem?_eq_getElem h]; rfl

theorem l5Copy_ok (l : List GN) (hl : Len l) (hf : ∀ v ∈ l, v.fits) : PCall P 28 [.fsl 7 (encn l)] (.fsl 7 (encn l)) := by
  refine pcall_of_fcall (fcall_walk T_ok ok_28 rfl ?_)
  unfold Go.Proofs.Try.f28
  simp only [Option.getD_some, envOf, Nat.zero_add, Nat.reduceAdd]
  have hE : (1 : Nat) = 1 := rfl
  repeat' (first | ((with_reducible first | apply ar_w T_ok | apply ar_w0 T_ok | apply ard_w T_ok | apply ard_w0 T_ok); (focus (simp (disch := omega) only [go_sem, Nat.reduceLT, Nat.reduceAdd, Nat.reduceLeDiff, Nat.reduceMul, Nat.reduceEqDiff, Nat.reduceBEq, reduceIte, encn_get, encn_len, hE, GN.enc, GV.enc] <;> rfl)); (focus (first | rfl | (simp [okIdsB, Nat.ble_eq]; done))); (focus rfl); (focus (first | trivial | (simp only [preOK]; omega) | exact ⟨by first | trivial | rfl | omega, by assumption, by omega⟩ | (simp [preOK, AllBytes, encn_get, encn_len, hE, GN.enc, GV.enc]; first | done | omega))); (focus (simp only [encn_get, encn_len, hE, GN.enc, GV.enc, Heap.puts, Heap.put_app, Heap.put_app0, Heap.put_len, Heap.put, List.length_append, List.length_cons, List.length_nil, Nat.zero_add, Nat.reduceAdd] <;> rfl))) | with_reducible (first | refine aw_reg_d P_mixed ?_ | refine ar_done ?_ | refine aw_seq ?_ | refine aw_reg ?_ | refine aw_block ?_ | refine aw_skip ?_ | refine aw_exit ?_ | refine aw_ret ?_ | refine at_n ?_ | refine at_e ?_ | refine at_r ?_ | refine ab_n ?_ | refine ab_r ?_ | refine ab_e ?_ | refine ab_ne rfl ?_ | refine an_e ?_ | refine an_r ?_ | refine am_e ?_ | refine am_r ?_) | ((with_reducible apply aw_cond_f); (focus (simp only [go_sem, Nat.reduceLT, Nat.reduceAdd, Nat.reduceLeDiff, Nat.reduceMul, Nat.reduceEqDiff, Nat.reduceBEq, reduceIte, encn_get, encn_len, hE, GN.enc, GV.enc] <;> rfl))) | ((with_reducible apply aw_cond_t); (focus (simp only [go_sem, Nat.reduceLT, Nat.reduceAdd, Nat.reduceLeDiff, Nat.reduceMul, Nat.reduceEqDiff, Nat.reduceBEq, reduceIte, encn_get, encn_len, hE, GN.enc, GV.enc] <;> rfl))) | ((with_reducible apply aw_cond_d); (focus (simp only [go_sem, Nat.reduceLT, Nat.reduceAdd, Nat.reduceLeDiff, Nat.reduceMul, Nat.reduceEqDiff, Nat.reduceBEq, reduceIte, encn_get, encn_len, hE, GN.enc, GV.enc] <;> rfl)); all_goals (intro hcond; try (exfalso; omega))) | ((with_reducible first | apply ae_r | apply ae_n); (focus (simp only [go_sem, Nat.reduceLT, Nat.reduceAdd, Nat.reduceLeDiff, Nat.reduceMul, Nat.reduceEqDiff, Nat.reduceBEq, reduceIte, encn_get, encn_len, hE, GN.enc, GV.enc] <;> rfl))) | ((with_reducible apply ard_done); (focus rfl)))
  refine aw_loopc (fun kk env H => ∃ i : Nat, i ≤ l.length ∧ kk = l.length - i ∧ env = [(0, .fsl 7 (encn l)), (3, .asl 0 i 7 (encn (l.take i))), (4, .int .i64 i)] ∧ H = [.tok i]) l.length
    [(0, .fsl 7 (encn l)), (3, .asl 0 0 7 []), (4, .int .i64 0)] _ (by simp [subP, Env.get, Weak.refl]) rfl (heapW_refl _) rfl rfl ⟨0, Nat.zero_le _, rfl, rfl, rfl⟩ ?_
  rintro kk env H ⟨i, hi, hk, rfl, rfl⟩
  by_cases hlt : i < l.length
  · have hff := hf _ (mem_getD (d := default) hlt)
    have htake := encn_take hlt
    clear hE
    obtain ⟨⟨id, ty, ⟨k, n, t, ls, ns⟩⟩, hE⟩ : ∃ x, l.getD i default = x := ⟨_, rfl⟩
    rw [hE] at hff htake
    obtain ⟨g1, g2, g3⟩ := hff
    repeat' (first | ((with_reducible first | apply ar_w T_ok | apply ar_w0 T_ok | apply ard_w T_ok | apply ard_w0 T_ok); (focus (simp (disch := omega) only [go_sem, Nat.reduceLT, Nat.reduceAdd, Nat.reduceLeDiff, Nat.reduceMul, Nat.reduceEqDiff, Nat.reduceBEq, reduceIte, encn_get, encn_len, hE, GN.enc, GV.enc] <;> rfl)); (focus (first | rfl | (simp [okIdsB, Nat.ble_eq]; done))); (focus rfl); (focus (first | trivial | (simp only [preOK]; omega) | exact ⟨by first | trivial | rfl | omega, by assumption, by omega⟩ | (simp [preOK, AllBytes, encn_get, encn_len, hE, GN.enc, GV.enc]; first | done | omega))); (focus (simp only [encn_get, encn_len, hE, GN.enc, GV.enc, Heap.puts, Heap.put_app, Heap.put_app0, Heap.put_len, Heap.put, List.length_append, List.length_cons, List.length_nil, Nat.zero_add, Nat.reduceAdd] <;> rfl))) | with_reducible (first | refine aw_reg_d P_mixed ?_ | refine ar_done ?_ | refine aw_seq ?_ | refine aw_reg ?_ | refine aw_block ?_ | refine aw_skip ?_ | refine aw_exit ?_ | refine aw_ret ?_ | refine at_n ?_ | refine at_e ?_ | refine at_r ?_ | refine ab_n ?_ | refine ab_r ?_ | refine ab_e ?_ | refine ab_ne rfl ?_ | refine an_e ?_ | refine an_r ?_ | refine am_e ?_ | refine am_r ?_) | ((with_reducible apply aw_cond_f); (focus (simp only [go_sem, Nat.reduceLT, Nat.reduceAdd, Nat.reduceLeDiff, Nat.reduceMul, Nat.reduceEqDiff, Nat.reduceBEq, reduceIte, encn_get, encn_len, hE, GN.enc, GV.enc] <;> rfl))) | ((with_reducible apply aw_cond_t); (focus (simp only [go_sem, Nat.reduceLT, Nat.reduceAdd, Nat.reduceLeDiff, Nat.reduceMul, Nat.reduceEqDiff, Nat.reduceBEq, reduceIte, encn_get, encn_len, hE, GN.enc, GV.enc] <;> rfl))) | ((with_reducible apply aw_cond_d); (focus (simp only [go_sem, Nat.reduceLT, Nat.reduceAdd, Nat.reduceLeDiff, Nat.reduceMul, Nat.reduceEqDiff, Nat.reduceBEq, reduceIte, encn_get, encn_len, hE, GN.enc, GV.enc] <;> rfl)); all_goals (intro hcond; try (exfalso; omega))) | ((with_reducible first | apply ae_r | apply ae_n); (focus (simp only [go_sem, Nat.reduceLT, Nat.reduceAdd, Nat.reduceLeDiff, Nat.reduceMul, Nat.reduceEqDiff, Nat.reduceBEq, reduceIte, encn_get, encn_len, hE, GN.enc, GV.enc] <;> rfl))) | ((with_reducible apply ard_done); (focus rfl)))
    ((apply ard_call rfl ok_67); (focus (simp only [go_sem, Nat.reduceLT, Nat.reduceAdd, Nat.reduceLeDiff, Nat.reduceMul, Nat.reduceEqDiff, Nat.reduceBEq, reduceIte, encn_get, encn_len, hE, GN.enc, GV.enc, List.map] <;> rfl)); (focus exact l1Copy_all _ ⟨k, n, t, ls, ns⟩ (Nat.lt_succ_self _) g3); (focus rfl); (focus rfl))
    simp only [GV.enc]
    repeat' (first | ((with_reducible first | apply ar_w T_ok | apply ar_w0 T_ok | apply ard_w T_ok | apply ard_w0 T_ok); (focus (simp (disch := omega) only [go_sem, Nat.reduceLT, Nat.reduceAdd, Nat.reduceLeDiff, Nat.reduceMul, Nat.reduceEqDiff, Nat.reduceBEq, reduceIte, encn_get, encn_len, hE, GN.enc, GV.enc] <;> rfl)); (focus (first | rfl | (simp [okIdsB, Nat.ble_eq]; done))); (focus rfl); (focus (first | trivial | (simp only [preOK]; omega) | exact ⟨by first | trivial | rfl | omega, by assumption, by omega⟩ | (simp [preOK, AllBytes, encn_get, encn_len, hE, GN.enc, GV.enc]; first | done | omega))); (focus (simp only [encn_get, encn_len, hE, GN.enc, GV.enc, Heap.puts, Heap.put_app, Heap.put_app0, Heap.put_len, Heap.put, List.length_append, List.length_cons, List.length_nil, Nat.zero_add, Nat.reduceAdd] <;> rfl))) | with_reducible (first | refine aw_reg_d P_mixed ?_ | refine ar_done ?_ | refine aw_seq ?_ | refine aw_reg ?_ | refine aw_block ?_ | refine aw_skip ?_ | refine aw_exit ?_ | refine aw_ret ?_ | refine at_n ?_ | refine at_e ?_ | refine at_r ?_ | refine ab_n ?_ | refine ab_r ?_ | refine ab_e ?_ | refine ab_ne rfl ?_ | refine an_e ?_ | refine an_r ?_ | refine am_e ?_ | refine am_r ?_) | ((with_reducible apply aw_cond_f); (focus (simp only [go_sem, Nat.reduceLT, Nat.reduceAdd, Nat.reduceLeDiff, Nat.reduceMul, Nat.reduceEqDiff, Nat.reduceBEq, reduceIte, encn_get, encn_len, hE, GN.enc, GV.enc] <;> rfl))) | ((with_reducible apply aw_cond_t); (focus (simp only [go_sem, Nat.reduceLT, Nat.reduceAdd, Nat.reduceLeDiff, Nat.reduceMul, Nat.reduceEqDiff, Nat.reduceBEq, reduceIte, encn_get, encn_len, hE, GN.enc, GV.enc] <;> rfl))) | ((with_reducible apply aw_cond_d); (focus (simp only [go_sem, Nat.reduceLT, Nat.reduceAdd, Nat.reduceLeDiff, Nat.reduceMul, Nat.reduceEqDiff, Nat.reduceBEq, reduceIte, encn_get, encn_len, hE, GN.enc, GV.enc] <;> rfl)); all_goals (intro hcond; try (exfalso; omega))) | ((with_reducible first | apply ae_r | apply ae_n); (focus (simp only [go_sem, Nat.reduceLT, Nat.reduceAdd, Nat.reduceLeDiff, Nat.reduceMul, Nat.reduceEqDiff, Nat.reduceBEq, reduceIte, encn_get, encn_len, hE, GN.enc, GV.enc] <;> rfl))) | ((with_reducible apply ard_done); (focus rfl)))
    refine anextm 1 _ _ (k' := l.length - (i + 1)) (by omega) (by simp) ?_ ?_ ?_ ?_ ?_ ⟨i + 1, by omega, rfl, rfl, rfl⟩
    · rw [htake]; simp [subP, Env.get, Weak.refl, GN.enc, GV.enc]
    · rfl
    · exact ⟨.refl _, trivial⟩
    · rfl
    · rfl
  · have : i = l.length := by omega
    subst this
    repeat' (first | ((with_reducible first | apply ar_w T_ok | apply ar_w0 T_ok | apply ard_w T_ok | apply ard_w0 T_ok); (focus (simp (disch := omega) only [go_sem, Nat.reduceLT, Nat.reduceAdd, Nat.reduceLeDiff, Nat.reduceMul, Nat.reduceEqDiff, Nat.reduceBEq, reduceIte, encn_get, encn_len, hE, GN.enc, GV.enc] <;> rfl)); (focus (first | rfl | (simp [okIdsB, Nat.ble_eq]; done))); (focus rfl); (focus (first | trivial | (simp only [preOK]; omega) | exact ⟨by first | trivial | rfl | omega, by assumption, by omega⟩ | (simp [preOK, AllBytes, encn_get, encn_len, hE, GN.enc, GV.enc]; first | done | omega))); (focus (simp only [encn_get, encn_len, hE, GN.enc, GV.enc, Heap.puts, Heap.put_app, Heap.put_app0, Heap.put_len, Heap.put, List.length_append, List.length_cons, List.length_nil, Nat.zero_add, Nat.reduceAdd] <;> rfl))) | with_reducible (first | refine aw_reg_d P_mixed ?_ | refine ar_done ?_ | refine aw_seq ?_ | refine aw_reg ?_ | refine aw_block ?_ | refine aw_skip ?_ | refine aw_exit ?_ | refine aw_ret ?_ | refine at_n ?_ | refine at_e ?_ | refine at_r ?_ | refine ab_n ?_ | refine ab_r ?_ | refine ab_e ?_ | refine ab_ne rfl ?_ | refine an_e ?_ | refine an_r ?_ | refine am_e ?_ | refine am_r ?_) | ((with_reducible apply aw_cond_f); (focus (simp only [go_sem, Nat.reduceLT, Nat.reduceAdd, Nat.reduceLeDiff, Nat.reduceMul, Nat.reduceEqDiff, Nat.reduceBEq, reduceIte, encn_get, encn_len, hE, GN.enc, GV.enc] <;> rfl))) | ((with_reducible apply aw_cond_t); (focus (simp only [go_sem, Nat.reduceLT, Nat.reduceAdd, Nat.reduceLeDiff, Nat.reduceMul, Nat.reduceEqDiff, Nat.reduceBEq, reduceIte, encn_get, encn_len, hE, GN.enc, GV.enc] <;> rfl))) | ((with_reducible apply aw_cond_d); (focus (simp only [go_sem, Nat.reduceLT, Nat.reduceAdd, Nat.reduceLeDiff, Nat.reduceMul, Nat.reduceEqDiff, Nat.reduceBEq, reduceIte, encn_get, encn_len, hE, GN.enc, GV.enc] <;> rfl)); all_goals (intro hcond; try (exfalso; omega))) | ((with_reducible first | apply ae_r | apply ae_n); (focus (simp only [go_sem, Nat.reduceLT, Nat.reduceAdd, Nat.reduceLeDiff, Nat.reduceMul, Nat.reduceEqDiff, Nat.reduceBEq, reduceIte, encn_get, encn_len, hE, GN.enc, GV.enc] <;> rfl))) | ((with_reducible apply ard_done); (focus rfl)))
    simp [aresV, frz]

theorem specHubNew_ok (l : List GN) (hl : Len l) (hf : ∀ v ∈ l, v.fits) : PCall P 7 [.fsl 7 (encn l)] (.agg [.fsl 7 (encn l), .fsl 5 []]) := by
  refine pcall_of_fcall (fcall_walk T_ok ok_7 rfl ?_)
  unfold Go.Proofs.Try.f7
  simp only [Option.getD_some, envOf, Nat.zero_add, Nat.reduceAdd]
  repeat' (first | ((with_reducible first | apply ar_w T_ok | apply ar_w0 T_ok | apply ard_w T_ok | apply ard_w0 T_ok); (focus (simp (disch := omega) only [go_sem, Nat.reduceLT, Nat.reduceAdd, Nat.reduceLeDiff, Nat.reduceMul, Nat.reduceEqDiff, Nat.reduceBEq, reduceIte, encn_len] <;> rfl)); (focus (first | rfl | (simp [okIdsB, Nat.ble_eq]; done))); (focus rfl); (focus (first | trivial | (simp only [preOK]; omega) | exact ⟨by first | trivial | rfl | omega, by assumption, by omega⟩ | (simp [preOK, AllBytes, encn_len]; first | done | omega))); (focus (simp only [encn_len, Heap.puts, Heap.put_app, Heap.put_app0, Heap.put_len, Heap.put, List.length_append, List.length_cons, List.length_nil, Nat.zero_add, Nat.reduceAdd] <;> rfl))) | with_reducible (first | refine aw_reg_d P_mixed ?_ | refine ar_done ?_ | refine aw_seq ?_ | refine aw_reg ?_ | refine aw_block ?_ | refine aw_skip ?_ | refine aw_exit ?_ | refine aw_ret ?_ | refine at_n ?_ | refine at_e ?_ | refine at_r ?_ | refine ab_n ?_ | refine ab_r ?_ | refine ab_e ?_ | refine ab_ne rfl ?_ | refine an_e ?_ | refine an_r ?_ | refine am_e ?_ | refine am_r ?_) | ((with_reducible apply aw_cond_f); (focus (simp only [go_sem, Nat.reduceLT, Nat.reduceAdd, Nat.reduceLeDiff, Nat.reduceMul, Nat.reduceEqDiff, Nat.reduceBEq, reduceIte, encn_len] <;> rfl))) | ((with_reducible apply aw_cond_t); (focus (simp only [go_sem, Nat.reduceLT, Nat.reduceAdd, Nat.reduceLeDiff, Nat.reduceMul, Nat.reduceEqDiff, Nat.reduceBEq, reduceIte, encn_len] <;> rfl))) | ((with_reducible apply aw_cond_d); (focus (simp only [go_sem, Nat.reduceLT, Nat.reduceAdd, Nat.reduceLeDiff, Nat.reduceMul, Nat.reduceEqDiff, Nat.reduceBEq, reduceIte, encn_len] <;> rfl)); all_goals (intro hcond; try (exfalso; omega))) | ((with_reducible first | apply ae_r | apply ae_n); (focus (simp only [go_sem, Nat.reduceLT, Nat.reduceAdd, Nat.reduceLeDiff, Nat.reduceMul, Nat.reduceEqDiff, Nat.reduceBEq, reduceIte, encn_len] <;> rfl))) | ((with_reducible apply ard_done); (focus rfl)))
  ((apply ar_call rfl ok_28); (focus (simp only [go_sem, Nat.reduceLT, Nat.reduceAdd, Nat.reduceLeDiff, Nat.reduceMul, Nat.reduceEqDiff, Nat.reduceBEq, reduceIte, encn_len, List.map] <;> rfl)); (focus exact l5Copy_ok l hl hf); (focus rfl); (focus rfl))
  repeat' (first | ((with_reducible first | apply ar_w T_ok | apply ar_w0 T_ok | apply ard_w T_ok | apply ard_w0 T_ok); (focus (simp (disch := omega) only [go_sem, Nat.reduceLT, Nat.reduceAdd, Nat.reduceLeDiff, Nat.reduceMul, Nat.reduceEqDiff, Nat.reduceBEq, reduceIte, encn_len] <;> rfl)); (focus (first | rfl | (simp [okIdsB, Nat.ble_eq]; done))); (focus rfl); (focus (first | trivial | (simp only [preOK]; omega) | exact ⟨by first | trivial | rfl | omega, by assumption, by omega⟩ | (simp [preOK, AllBytes, encn_len]; first | done | omega))); (focus (simp only [encn_len, Heap.puts, Heap.put_app, Heap.put_app0, Heap.put_len, Heap.put, List.length_append, List.length_cons, List.length_nil, Nat.zero_add, Nat.reduceAdd] <;> rfl))) | with_reducible (first | refine aw_reg_d P_mixed ?_ | refine ar_done ?_ | refine aw_seq ?_ | refine aw_reg ?_ | refine aw_block ?_ | refine aw_skip ?_ | refine aw_exit ?_ | refine aw_ret ?_ | refine at_n ?_ | refine at_e ?_ | refine at_r ?_ | refine ab_n ?_ | refine ab_r ?_ | refine ab_e ?_ | refine ab_ne rfl ?_ | refine an_e ?_ | refine an_r ?_ | refine am_e ?_ | refine am_r ?_) | ((with_reducible apply aw_cond_f); (focus (simp only [go_sem, Nat.reduceLT, Nat.reduceAdd, Nat.reduceLeDiff, Nat.reduceMul, Nat.reduceEqDiff, Nat.reduceBEq, reduceIte, encn_len] <;> rfl))) | ((with_reducible apply aw_cond_t); (focus (simp only [go_sem, Nat.reduceLT, Nat.reduceAdd, Nat.reduceLeDiff, Nat.reduceMul, Nat.reduceEqDiff, Nat.reduceBEq, reduceIte, encn_len] <;> rfl))) | ((with_reducible apply aw_cond_d); (focus (simp only [go_sem, Nat.reduceLT, Nat.reduceAdd, Nat.reduceLeDiff, Nat.reduceMul, Nat.reduceEqDiff, Nat.reduceBEq, reduceIte, encn_len] <;> rfl)); all_goals (intro hcond; try (exfalso; omega))) | ((with_reducible first | apply ae_r | apply ae_n); (focus (simp only [go_sem, Nat.reduceLT, Nat.reduceAdd, Nat.reduceLeDiff, Nat.reduceMul, Nat.reduceEqDiff, Nat.reduceBEq, reduceIte, encn_len] <;> rfl))) | ((with_reducible apply ard_done); (focus rfl)))
  rfl
end Go.Av
set_option linter.unusedVariables false
set_option linter.unusedSimpArgs false
namespace Go.Av
open Go
set_option maxRecDepth 10000

theorem eqStringS_ok (xs : List (List UInt8)) (h2 : Len xs) : PCall P 97 [.fsl 1 (strs xs), .fsl 1 (strs xs)] (.bool true) := by
  refine pcall_of_fcall (fcall_walk T_ok ok_97 rfl ?_)
  unfold Go.Proofs.Try.f97
  simp only [Option.getD_some, envOf, Nat.zero_add, Nat.reduceAdd]
  repeat' (first | ((with_reducible first | apply ar_w T_ok | apply ar_w0 T_ok | apply ard_w T_ok | apply ard_w0 T_ok); (focus (simp (disch := omega) only [go_sem, Nat.reduceLT, Nat.reduceAdd, Nat.reduceLeDiff, Nat.reduceMul, Nat.reduceEqDiff, Nat.reduceBEq, reduceIte, strs_get, strs_len] <;> rfl)); (focus (first | rfl | (simp [okIdsB, Nat.ble_eq]; done))); (focus rfl); (focus (first | trivial | (simp only [preOK]; omega) | exact ⟨by first | trivial | rfl | omega, by assumption, by omega⟩ | (simp [preOK, AllBytes, strs_get, strs_len]; first | done | omega))); (focus (simp only [strs_get, strs_len, Heap.puts, Heap.put_app, Heap.put_app0, Heap.put_len, Heap.put, List.length_append, List.length_cons, List.length_nil, Nat.zero_add, Nat.reduceAdd] <;> rfl))) | with_reducible (first | refine aw_reg_d P_mixed ?_ | refine ar_done ?_ | refine aw_seq ?_ | refine aw_reg ?_ | refine aw_block ?_ | refine aw_skip ?_ | refine aw_exit ?_ | refine aw_ret ?_ | refine at_n ?_ | refine at_e ?_ | refine at_r ?_ | refine ab_n ?_ | refine ab_r ?_ | refine ab_e ?_ | refine ab_ne rfl ?_ | refine an_e ?_ | refine an_r ?_ | refine am_e ?_ | refine am_r ?_) | ((with_reducible apply aw_cond_f); (focus (simp only [go_sem, Nat.reduceLT, Nat.reduceAdd, Nat.reduceLeDiff, Nat.reduceMul, Nat.reduceEqDiff, Nat.reduceBEq, reduceIte, strs_get, strs_len] <;> rfl))) | ((with_reducible apply aw_cond_t); (focus (simp only [go_sem, Nat.reduceLT, Nat.reduceAdd, Nat.reduceLeDiff, Nat.reduceMul, Nat.reduceEqDiff, Nat.reduceBEq, reduceIte, strs_get, strs_len] <;> rfl))) | ((with_reducible apply aw_cond_d); (focus (simp only [go_sem, Nat.reduceLT, Nat.reduceAdd, Nat.reduceLeDiff, Nat.reduceMul, Nat.reduceEqDiff, Nat.reduceBEq, reduceIte, strs_get, strs_len] <;> rfl)); all_goals (intro hcond; try (exfalso; omega))) | ((with_reducible first | apply ae_r | apply ae_n); (focus (simp only [go_sem, Nat.reduceLT, Nat.reduceAdd, Nat.reduceLeDiff, Nat.reduceMul, Nat.reduceEqDiff, Nat.reduceBEq, reduceIte, strs_get, strs_len] <;> rfl))) | ((with_reducible apply ard_done); (focus rfl)))
  refine aw_loopc (fun k env H => ∃ (i : Nat), i ≤ xs.length ∧ k = xs.length - i ∧ H = [] ∧ env = [(0, .fsl 1 (strs xs)), (1, .fsl 1 (strs xs)), (5, .int .i64 i)]) xs.length
      [(0, .fsl 1 (strs xs)), (1, .fsl 1 (strs xs)), (5, .int .i64 0)] [] (by simp [subP, Env.get, Weak.refl]) rfl trivial rfl rfl ⟨0, Nat.zero_le _, rfl, rfl, rfl⟩ ?_
  rintro k env H ⟨i, hi, hk, rfl, rfl⟩
  by_cases hlt : i < xs.length
  · repeat' (first | ((with_reducible first | apply ar_w T_ok | apply ar_w0 T_ok | apply ard_w T_ok | apply ard_w0 T_ok); (focus (simp (disch := omega) only [go_sem, Nat.reduceLT, Nat.reduceAdd, Nat.reduceLeDiff, Nat.reduceMul, Nat.reduceEqDiff, Nat.reduceBEq, reduceIte, strs_get, strs_len] <;> rfl)); (focus (first | rfl | (simp [okIdsB, Nat.ble_eq]; done))); (focus rfl); (focus (first | trivial | (simp only [preOK]; omega) | exact ⟨by first | trivial | rfl | omega, by assumption, by omega⟩ | (simp [preOK, AllBytes, strs_get, strs_len]; first | done | omega))); (focus (simp only [strs_get, strs_len, Heap.puts, Heap.put_app, Heap.put_app0, Heap.put_len, Heap.put, List.length_append, List.length_cons, List.length_nil, Nat.zero_add, Nat.reduceAdd] <;> rfl))) | with_reducible (first | refine aw_reg_d P_mixed ?_ | refine ar_done ?_ | refine aw_seq ?_ | refine aw_reg ?_ | refine aw_block ?_ | refine aw_skip ?_ | refine aw_exit ?_ | refine aw_ret ?_ | refine at_n ?_ | refine at_e ?_ | refine at_r ?_ | refine ab_n ?_ | refine ab_r ?_ | refine ab_e ?_ | refine ab_ne rfl ?_ | refine an_e ?_ | refine an_r ?_ | refine am_e ?_ | refine am_r ?_) | ((with_reducible apply aw_cond_f); (focus (simp only [go_sem, Nat.reduceLT, Nat.reduceAdd, Nat.reduceLeDiff, Nat.reduceMul, Nat.reduceEqDiff, Nat.reduceBEq, reduceIte, strs_get, strs_len] <;> rfl))) | ((with_reducible apply aw_cond_t); (focus (simp only [go_sem, Nat.reduceLT, Nat.reduceAdd, Nat.reduceLeDiff, Nat.reduceMul, Nat.reduceEqDiff, Nat.reduceBEq, reduceIte, strs_get, strs_len] <;> rfl))) | ((with_reducible apply aw_cond_d); (focus (simp only [go_sem, Nat.reduceLT, Nat.reduceAdd, Nat.reduceLeDiff, Nat.reduceMul, Nat.reduceEqDiff, Nat.reduceBEq, reduceIte, strs_get, strs_len] <;> rfl)); all_goals (intro hcond; try (exfalso; omega))) | ((with_reducible first | apply ae_r | apply ae_n); (focus (simp only [go_sem, Nat.reduceLT, Nat.reduceAdd, Nat.reduceLeDiff, Nat.reduceMul, Nat.reduceEqDiff, Nat.reduceBEq, reduceIte, strs_get, strs_len] <;> rfl))) | ((with_reducible apply ard_done); (focus rfl)))
    exact anext0 [(0, .fsl 1 (strs xs)), (1, .fsl 1 (strs xs)), (5, .int .i64 (i + 1 : Nat))] [] (k' := xs.length - (i + 1)) (by omega) (by simp [subP, Env.get, Weak.refl]) rfl trivial rfl rfl ⟨i + 1, by omega, rfl, rfl, rfl⟩
  · have : i = xs.length := by omega
    subst this
    repeat' (first | ((with_reducible first | apply ar_w T_ok | apply ar_w0 T_ok | apply ard_w T_ok | apply ard_w0 T_ok); (focus (simp (disch := omega) only [go_sem, Nat.reduceLT, Nat.reduceAdd, Nat.reduceLeDiff, Nat.reduceMul, Nat.reduceEqDiff, Nat.reduceBEq, reduceIte, strs_get, strs_len] <;> rfl)); (focus (first | rfl | (simp [okIdsB, Nat.ble_eq]; done))); (focus rfl); (focus (first | trivial | (simp only [preOK]; omega) | exact ⟨by first | trivial | rfl | omega, by assumption, by omega⟩ | (simp [preOK, AllBytes, strs_get, strs_len]; first | done | omega))); (focus (simp only [strs_get, strs_len, Heap.puts, Heap.put_app, Heap.put_app0, Heap.put_len, Heap.put, List.length_append, List.length_cons, List.length_nil, Nat.zero_add, Nat.reduceAdd] <;> rfl))) | with_reducible (first | refine aw_reg_d P_mixed ?_ | refine ar_done ?_ | refine aw_seq ?_ | refine aw_reg ?_ | refine aw_block ?_ | refine aw_skip ?_ | refine aw_exit ?_ | refine aw_ret ?_ | refine at_n ?_ | refine at_e ?_ | refine at_r ?_ | refine ab_n ?_ | refine ab_r ?_ | refine ab_e ?_ | refine ab_ne rfl ?_ | refine an_e ?_ | refine an_r ?_ | refine am_e ?_ | refine am_r ?_) | ((with_reducible apply aw_cond_f); (focus (simp only [go_sem, Nat.reduceLT, Nat.reduceAdd, Nat.reduceLeDiff, Nat.reduceMul, Nat.reduceEqDiff, Nat.reduceBEq, reduceIte, strs_get, strs_len] <;> rfl))) | ((with_reducible apply aw_cond_t); (focus (simp only [go_sem, Nat.reduceLT, Nat.reduceAdd, Nat.reduceLeDiff, Nat.reduceMul, Nat.reduceEqDiff, Nat.reduceBEq, reduceIte, strs_get, strs_len] <;> rfl))) | ((with_reducible apply aw_cond_d); (focus (simp only [go_sem, Nat.reduceLT, Nat.reduceAdd, Nat.reduceLeDiff, Nat.reduceMul, Nat.reduceEqDiff, Nat.reduceBEq, reduceIte, strs_get, strs_len] <;> rfl)); all_goals (intro hcond; try (exfalso; omega))) | ((with_reducible first | apply ae_r | apply ae_n); (focus (simp only [go_sem, Nat.reduceLT, Nat.reduceAdd, Nat.reduceLeDiff, Nat.reduceMul, Nat.reduceEqDiff, Nat.reduceBEq, reduceIte, strs_get, strs_len] <;> rfl))) | ((with_reducible apply ard_done); (focus rfl)))
    rfl

theorem eqValue_ok (v : GV) (hf : v.fits) (ih : ∀ l : List GV, sizes l < v.size → Len l → fitss l → PCall P 96 [.fsl 5 (encs l), .fsl 5 (encs l)] (.bool true)) :
    PCall P 70 [.agg v.enc, .agg v.enc] (.bool true) := by
  obtain ⟨k, n, t, l, ns⟩ := v
  obtain ⟨f1, f2, f3, f4, f5, f6, f7⟩ := hf
  refine pcall_of_fcall (fcall_walk T_ok ok_70 rfl ?_)
  unfold Go.Proofs.Try.f70
  simp only [Option.getD_some, envOf, Nat.zero_add, Nat.reduceAdd, GV.enc]
  repeat' (first | ((with_reducible first | apply ar_w T_ok | apply ar_w0 T_ok | apply ard_w T_ok | apply ard_w0 T_ok); (focus (simp (disch := omega) only [go_sem, Nat.reduceLT, Nat.reduceAdd, Nat.reduceLeDiff, Nat.reduceMul, Nat.reduceEqDiff, Nat.reduceBEq, reduceIte, GV.enc] <;> rfl)); (focus (first | rfl | (simp [okIdsB, Nat.ble_eq]; done))); (focus rfl); (focus (first | trivial | (simp only [preOK]; omega) | exact ⟨by first | trivial | rfl | omega, by assumption, by omega⟩ | (simp [preOK, AllBytes, GV.enc]; first | done | omega))); (focus (simp only [GV.enc, Heap.puts, Heap.put_app, Heap.put_app0, Heap.put_len, Heap.put, List.length_append, List.length_cons, List.length_nil, Nat.zero_add, Nat.reduceAdd] <;> rfl))) | with_reducible (first | refine aw_reg_d P_mixed ?_ | refine ar_done ?_ | refine aw_seq ?_ | refine aw_reg ?_ | refine aw_block ?_ | refine aw_skip ?_ | refine aw_exit ?_ | refine aw_ret ?_ | refine at_n ?_ | refine at_e ?_ | refine at_r ?_ | refine ab_n ?_ | refine ab_r ?_ | refine ab_e ?_ | refine ab_ne rfl ?_ | refine an_e ?_ | refine an_r ?_ | refine am_e ?_ | refine am_r ?_) | ((with_reducible apply aw_cond_f); (focus (simp only [go_sem, Nat.reduceLT, Nat.reduceAdd, Nat.reduceLeDiff, Nat.reduceMul, Nat.reduceEqDiff, Nat.reduceBEq, reduceIte, GV.enc] <;> rfl))) | ((with_reducible apply aw_cond_t); (focus (simp only [go_sem, Nat.reduceLT, Nat.reduceAdd, Nat.reduceLeDiff, Nat.reduceMul, Nat.reduceEqDiff, Nat.reduceBEq, reduceIte, GV.enc] <;> rfl))) | ((with_reducible apply aw_cond_d); (focus (simp only [go_sem, Nat.reduceLT, Nat.reduceAdd, Nat.reduceLeDiff, Nat.reduceMul, Nat.reduceEqDiff, Nat.reduceBEq, reduceIte, GV.enc] <;> rfl)); all_goals (intro hcond; try (exfalso; omega))) | ((with_reducible first | apply ae_r | apply ae_n); (focus (simp only [go_sem, Nat.reduceLT, Nat.reduceAdd, Nat.reduceLeDiff, Nat.reduceMul, Nat.reduceEqDiff, Nat.reduceBEq, reduceIte, GV.enc] <;> rfl))) | ((with_reducible apply ard_done); (focus rfl)))
  ((apply ar_call rfl ok_96); (focus (simp only [go_sem, Nat.reduceLT, Nat.reduceAdd, Nat.reduceLeDiff, Nat.reduceMul, Nat.reduceEqDiff, Nat.reduceBEq, reduceIte, GV.enc, List.map] <;> rfl)); (focus exact ih l (by simp only [GV.size]; omega) f4 f5); (focus rfl); (focus rfl))
  repeat' (first | ((with_reducible first | apply ar_w T_ok | apply ar_w0 T_ok | apply ard_w T_ok | apply ard_w0 T_ok); (focus (simp (disch := omega) only [go_sem, Nat.reduceLT, Nat.reduceAdd, Nat.reduceLeDiff, Nat.reduceMul, Nat.reduceEqDiff, Nat.reduceBEq, reduceIte, GV.enc] <;> rfl)); (focus (first | rfl | (simp [okIdsB, Nat.ble_eq]; done))); (focus rfl); (focus (first | trivial | (simp only [preOK]; omega) | exact ⟨by first | trivial | rfl | omega, by assumption, by omega⟩ | (simp [preOK, AllBytes, GV.enc]; first | done | omega))); (focus (simp only [GV.enc, Heap.puts, Heap.put_app, Heap.put_app0, Heap.put_len, Heap.put, List.length_append, List.length_cons, List.length_nil, Nat.zero_add, Nat.reduceAdd] <;> rfl))) | with_reducible (first | refine aw_reg_d P_mixed ?_ | refine ar_done ?_ | refine aw_seq ?_ | refine aw_reg ?_ | refine aw_block ?_ | refine aw_skip ?_ | refine aw_exit ?_ | refine aw_ret ?_ | refine at_n ?_ | refine at_e ?_ | refine at_r ?_ | refine ab_n ?_ | refine ab_r ?_ | refine ab_e ?_ | refine ab_ne rfl ?_ | refine an_e ?_ | refine an_r ?_ | refine am_e ?_ | refine am_r ?_) | ((with_reducible apply aw_cond_f); (focus (simp only [go_sem, Nat.reduceLT, Nat.reduceAdd, Nat.reduceLeDiff, Nat.reduceMul, Nat.reduceEqDiff, Nat.reduceBEq, reduceIte, GV.enc] <;> rfl))) | ((with_reducible apply aw_cond_t); (focus (simp only [go_sem, Nat.reduceLT, Nat.reduceAdd, Nat.reduceLeDiff, Nat.reduceMul, Nat.reduceEqDiff, Nat.reduceBEq, reduceIte, GV.enc] <;> rfl))) | ((with_reducible apply aw_cond_d); (focus (simp only [go_sem, Nat.reduceLT, Nat.reduceAdd, Nat.reduceLeDiff, Nat.reduceMul, Nat.reduceEqDiff, Nat.reduceBEq, reduceIte, GV.enc] <;> rfl)); all_goals (intro hcond; try (exfalso; omega))) | ((with_reducible first | apply ae_r | apply ae_n); (focus (simp only [go_sem, Nat.reduceLT, Nat.reduceAdd, Nat.reduceLeDiff, Nat.reduceMul, Nat.reduceEqDiff, Nat.reduceBEq, reduceIte, GV.enc] <;> rfl))) | ((with_reducible apply ard_done); (focus rfl)))
  ((apply ar_call rfl ok_97); (focus (simp only [go_sem, Nat.reduceLT, Nat.reduceAdd, Nat.reduceLeDiff, Nat.reduceMul, Nat.reduceEqDiff, Nat.reduceBEq, reduceIte, GV.enc, List.map] <;> rfl)); (focus exact eqStringS_ok ns f6); (focus rfl); (focus rfl))
  repeat' (first | ((with_reducible first | apply ar_w T_ok | apply ar_w0 T_ok | apply ard_w T_ok | apply ard_w0 T_ok); (focus (simp (disch := omega) only [go_sem, Nat.reduceLT, Nat.reduceAdd, Nat.reduceLeDiff, Nat.reduceMul, Nat.reduceEqDiff, Nat.reduceBEq, reduceIte, GV.enc] <;> rfl)); (focus (first | rfl | (simp [okIdsB, Nat.ble_eq]; done))); (focus rfl); (focus (first | trivial | (simp only [preOK]; omega) | exact ⟨by first | trivial | rfl | omega, by assumption, by omega⟩ | (simp [preOK, AllBytes, GV.enc]; first | done | omega))); (focus (simp only [GV.enc, Heap.puts, Heap.put_app, Heap.put_app0, Heap.put_len, Heap.put, List.length_append, List.length_cons, List.length_nil, Nat.zero_add, Nat.reduceAdd] <;> rfl))) | with_reducible (first | refine aw_reg_d P_mixed ?_ | refine ar_done ?_ | refine aw_seq ?_ | refine aw_reg ?_ | refine aw_block ?_ | refine aw_skip ?_ | refine aw_exit ?_ | refine aw_ret ?_ | refine at_n ?_ | refine at_e ?_ | refine at_r ?_ | refine ab_n ?_ | refine ab_r ?_ | refine ab_e ?_ | refine ab_ne rfl ?_ | refine an_e ?_ | refine an_r ?_ | refine am_e ?_ | refine am_r ?_) | ((with_reducible apply aw_cond_f); (focus (simp only [go_sem, Nat.reduceLT, Nat.reduceAdd, Nat.reduceLeDiff, Nat.reduceMul, Nat.reduceEqDiff, Nat.reduceBEq, reduceIte, GV.enc] <;> rfl))) | ((with_reducible apply aw_cond_t); (focus (simp only [go_sem, Nat.reduceLT, Nat.reduceAdd, Nat.reduceLeDiff, Nat.reduceMul, Nat.reduceEqDiff, Nat.reduceBEq, reduceIte, GV.enc] <;> rfl))) | ((with_reducible apply aw_cond_d); (focus (simp only [go_sem, Nat.reduceLT, Nat.reduceAdd, Nat.reduceLeDiff, Nat.reduceMul, Nat.reduceEqDiff, Nat.reduceBEq, reduceIte, GV.enc] <;> rfl)); all_goals (intro hcond; try (exfalso; omega))) | ((with_reducible first | apply ae_r | apply ae_n); (focus (simp only [go_sem, Nat.reduceLT, Nat.reduceAdd, Nat.reduceLeDiff, Nat.reduceMul, Nat.reduceEqDiff, Nat.reduceBEq, reduceIte, GV.enc] <;> rfl))) | ((with_reducible apply ard_done); (focus rfl)))
  rfl

theorem eqValueS_ok (l : List GV) (h2 : Len l) (hf : fitss l) (ih : ∀ v : GV, v ∈ l → v.fits → PCall P 70 [.agg v.enc, .agg v.enc] (.bool true)) :
    PCall P 96 [.fsl 5 (encs l), .fsl 5 (encs l)] (.bool true) := by
  refine pcall_of_fcall (fcall_walk T_ok ok_96 rfl ?_)
  unfold Go.Proofs.Try.f96
  simp only [Option.getD_some, envOf, Nat.zero_add, Nat.reduceAdd]
  repeat' (first | ((with_reducible first | apply ar_w T_ok | apply ar_w0 T_ok | apply ard_w T_ok | apply ard_w0 T_ok); (focus (simp (disch := omega) only [go_sem, Nat.reduceLT, Nat.reduceAdd, Nat.reduceLeDiff, Nat.reduceMul, Nat.reduceEqDiff, Nat.reduceBEq, reduceIte, encs_get, encs_len, enc_len, enc_take, enc_frz, enc_all] <;> rfl)); (focus (first | rfl | (simp [okIdsB, Nat.ble_eq]; done))); (focus rfl); (focus (first | trivial | (simp only [preOK]; omega) | exact ⟨by first | trivial | rfl | omega, by assumption, by omega⟩ | (simp [preOK, AllBytes, encs_get, encs_len, enc_len, enc_take, enc_frz, enc_all]; first | done | omega))); (focus (simp only [encs_get, encs_len, enc_len, enc_take, enc_frz, enc_all, Heap.puts, Heap.put_app, Heap.put_app0, Heap.put_len, Heap.put, List.length_append, List.length_cons, List.length_nil, Nat.zero_add, Nat.reduceAdd] <;> rfl))) | with_reducible (first | refine aw_reg_d P_mixed ?_ | refine ar_done ?_ | refine aw_seq ?_ | refine aw_reg ?_ | refine aw_block ?_ | refine aw_skip ?_ | refine aw_exit ?_ | refine aw_ret ?_ | refine at_n ?_ | refine at_e ?_ | refine at_r ?_ | refine ab_n ?_ | refine ab_r ?_ | refine ab_e ?_ | refine ab_ne rfl ?_ | refine an_e ?_ | refine an_r ?_ | refine am_e ?_ | refine am_r ?_) | ((with_reducible apply aw_cond_f); (focus (simp only [go_sem, Nat.reduceLT, Nat.reduceAdd, Nat.reduceLeDiff, Nat.reduceMul, Nat.reduceEqDiff, Nat.reduceBEq, reduceIte, encs_get, encs_len, enc_len, enc_take, enc_frz, enc_all] <;> rfl))) | ((with_reducible apply aw_cond_t); (focus (simp only [go_sem, Nat.reduceLT, Nat.reduceAdd, Nat.reduceLeDiff, Nat.reduceMul, Nat.reduceEqDiff, Nat.reduceBEq, reduceIte, encs_get, encs_len, enc_len, enc_take, enc_frz, enc_all] <;> rfl))) | ((with_reducible apply aw_cond_d); (focus (simp only [go_sem, Nat.reduceLT, Nat.reduceAdd, Nat.reduceLeDiff, Nat.reduceMul, Nat.reduceEqDiff, Nat.reduceBEq, reduceIte, encs_get, encs_len, enc_len, enc_take, enc_frz, enc_all] <;> rfl)); all_goals (intro hcond; try (exfalso; omega))) | ((with_reducible first | apply ae_r | apply ae_n); (focus (simp only [go_sem, Nat.reduceLT, Nat.reduceAdd, Nat.reduceLeDiff, Nat.reduceMul, Nat.reduceEqDiff, Nat.reduceBEq, reduceIte, encs_get, encs_len, enc_len, enc_take, enc_frz, enc_all] <;> rfl))) | ((with_reducible apply ard_done); (focus rfl)))
  refine aw_loopc (fun k env H => ∃ (i : Nat), i ≤ l.length ∧ k = l.length - i ∧ H = [] ∧ env = [(0, .fsl 5 (encs l)), (1, .fsl 5 (encs l)), (5, .int .i64 i)]) l.length
      [(0, .fsl 5 (encs l)), (1, .fsl 5 (encs l)), (5, .int .i64 0)] [] (by simp [subP, Env.get, Weak.refl]) rfl trivial rfl rfl ⟨0, Nat.zero_le _, rfl, rfl, rfl⟩ ?_
  rintro k env H ⟨i, hi, hk, rfl, rfl⟩
  by_cases hlt : i < l.length
  · have hmem := mem_getD (d := default) hlt
    have hff := fitss_mem hf _ hmem
    repeat' (first | ((with_reducible first | apply ar_w T_ok | apply ar_w0 T_ok | apply ard_w T_ok | apply ard_w0 T_ok); (focus (simp (disch := omega) only [go_sem, Nat.reduceLT, Nat.reduceAdd, Nat.reduceLeDiff, Nat.reduceMul, Nat.reduceEqDiff, Nat.reduceBEq, reduceIte, encs_get, encs_len, enc_len, enc_take, enc_frz, enc_all] <;> rfl)); (focus (first | rfl | (simp [okIdsB, Nat.ble_eq]; done))); (focus rfl); (focus (first | trivial | (simp only [preOK]; omega) | exact ⟨by first | trivial | rfl | omega, by assumption, by omega⟩ | (simp [preOK, AllBytes, encs_get, encs_len, enc_len, enc_take, enc_frz, enc_all]; first | done | omega))); (focus (simp only [encs_get, encs_len, enc_len, enc_take, enc_frz, enc_all, Heap.puts, Heap.put_app, Heap.put_app0, Heap.put_len, Heap.put, List.length_append, List.length_cons, List.length_nil, Nat.zero_add, Nat.reduceAdd] <;> rfl))) | with_reducible (first | refine aw_reg_d P_mixed ?_ | refine ar_done ?_ | refine aw_seq ?_ | refine aw_reg ?_ | refine aw_block ?_ | refine aw_skip ?_ | refine aw_exit ?_ | refine aw_ret ?_ | refine at_n ?_ | refine at_e ?_ | refine at_r ?_ | refine ab_n ?_ | refine ab_r ?_ | refine ab_e ?_ | refine ab_ne rfl ?_ | refine an_e ?_ | refine an_r ?_ | refine am_e ?_ | refine am_r ?_) | ((with_reducible apply aw_cond_f); (focus (simp only [go_sem, Nat.reduceLT, Nat.reduceAdd, Nat.reduceLeDiff, Nat.reduceMul, Nat.reduceEqDiff, Nat.reduceBEq, reduceIte, encs_get, encs_len, enc_len, enc_take, enc_frz, enc_all] <;> rfl))) | ((with_reducible apply aw_cond_t); (focus (simp only [go_sem, Nat.reduceLT, Nat.reduceAdd, Nat.reduceLeDiff, Nat.reduceMul, Nat.reduceEqDiff, Nat.reduceBEq, reduceIte, encs_get, encs_len, enc_len, enc_take, enc_frz, enc_all] <;> rfl))) | ((with_reducible apply aw_cond_d); (focus (simp only [go_sem, Nat.reduceLT, Nat.reduceAdd, Nat.reduceLeDiff, Nat.reduceMul, Nat.reduceEqDiff, Nat.reduceBEq, reduceIte, encs_get, encs_len, enc_len, enc_take, enc_frz, enc_all] <;> rfl)); all_goals (intro hcond; try (exfalso; omega))) | ((with_reducible first | apply ae_r | apply ae_n); (focus (simp only [go_sem, Nat.reduceLT, Nat.reduceAdd, Nat.reduceLeDiff, Nat.reduceMul, Nat.reduceEqDiff, Nat.reduceBEq, reduceIte, encs_get, encs_len, enc_len, enc_take, enc_frz, enc_all] <;> rfl))) | ((with_reducible apply ard_done); (focus rfl)))
    ((apply ard_call rfl ok_70); (focus (simp only [go_sem, Nat.reduceLT, Nat.reduceAdd, Nat.reduceLeDiff, Nat.reduceMul, Nat.reduceEqDiff, Nat.reduceBEq, reduceIte, encs_get, encs_len, enc_len, enc_take, enc_frz, enc_all, List.map] <;> rfl)); (focus exact ih _ hmem hff); (focus rfl); (focus rfl))
    repeat' (first | ((with_reducible first | apply ar_w T_ok | apply ar_w0 T_ok | apply ard_w T_ok | apply ard_w0 T_ok); (focus (simp (disch := omega) only [go_sem, Nat.reduceLT, Nat.reduceAdd, Nat.reduceLeDiff, Nat.reduceMul, Nat.reduceEqDiff, Nat.reduceBEq, reduceIte, encs_get, encs_len, enc_len, enc_take, enc_frz, enc_all] <;> rfl)); (focus (first | rfl | (simp [okIdsB, Nat.ble_eq]; done))); (focus rfl); (focus (first | trivial | (simp only [preOK]; omega) | exact ⟨by first | trivial | rfl | omega, by assumption, by omega⟩ | (simp [preOK, AllBytes, encs_get, encs_len, enc_len, enc_take, enc_frz, enc_all]; first | done | omega))); (focus (simp only [encs_get, encs_len, enc_len, enc_take, enc_frz, enc_all, Heap.puts, Heap.put_app, Heap.put_app0, Heap.put_len, Heap.put, List.length_append, List.length_cons, List.length_nil, Nat.zero_add, Nat.reduceAdd] <;> rfl))) | with_reducible (first | refine aw_reg_d P_mixed ?_ | refine ar_done ?_ | refine aw_seq ?_ | refine aw_reg ?_ | refine aw_block ?_ | refine aw_skip ?_ | refine aw_exit ?_ | refine aw_ret ?_ | refine at_n ?_ | refine at_e ?_ | refine at_r ?_ | refine ab_n ?_ | refine ab_r ?_ | refine ab_e ?_ | refine ab_ne rfl ?_ | refine an_e ?_ | refine an_r ?_ | refine am_e ?_ | refine am_r ?_) | ((with_reducible apply aw_cond_f); (focus (simp only [go_sem, Nat.reduceLT, Nat.reduceAdd, Nat.reduceLeDiff, Nat.reduceMul, Nat.reduceEqDiff, Nat.reduceBEq, reduceIte, encs_get, encs_len, enc_len, enc_take, enc_frz, enc_all] <;> rfl))) | ((with_reducible apply aw_cond_t); (focus (simp only [go_sem, Nat.reduceLT, Nat.reduceAdd, Nat.reduceLeDiff, Nat.reduceMul, Nat.reduceEqDiff, Nat.reduceBEq, reduceIte, encs_get, encs_len, enc_len, enc_take, enc_frz, enc_all] <;> rfl))) | ((with_reducible apply aw_cond_d); (focus (simp only [go_sem, Nat.reduceLT, Nat.reduceAdd, Nat.reduceLeDiff, Nat.reduceMul, Nat.reduceEqDiff, Nat.reduceBEq, reduceIte, encs_get, encs_len, enc_len, enc_take, enc_frz, enc_all] <;> rfl)); all_goals (intro hcond; try (exfalso; omega))) | ((with_reducible first | apply ae_r | apply ae_n); (focus (simp only [go_sem, Nat.reduceLT, Nat.reduceAdd, Nat.reduceLeDiff, Nat.reduceMul, Nat.reduceEqDiff, Nat.reduceBEq, reduceIte, encs_get, encs_len, enc_len, enc_take, enc_frz, enc_all] <;> rfl))) | ((with_reducible apply ard_done); (focus rfl)))
    exact anext0 [(0, .fsl 5 (encs l)), (1, .fsl 5 (encs l)), (5, .int .i64 (i + 1 : Nat))] [] (k' := l.length - (i + 1)) (by omega) (by simp [subP, Env.get, Weak.refl]) rfl trivial rfl rfl ⟨i + 1, by omega, rfl, rfl, rfl⟩
  · have : i = l.length := by omega
    subst this
    repeat' (first | ((with_reducible first | apply ar_w T_ok | apply ar_w0 T_ok | apply ard_w T_ok | apply ard_w0 T_ok); (focus (simp (disch := omega) only [go_sem, Nat.reduceLT, Nat.reduceAdd, Nat.reduceLeDiff, Nat.reduceMul, Nat.reduceEqDiff, Nat.reduceBEq, reduceIte, encs_get, encs_len, enc_len, enc_take, enc_frz, enc_all] <;> rfl)); (focus (first | rfl | (simp [okIdsB, Nat.ble_eq]; done))); (focus rfl); (focus (first | trivial | (simp only [preOK]; omega) | exact ⟨by first | trivial | rfl | omega, by assumption, by omega⟩ | (simp [preOK, AllBytes, encs_get, encs_len, enc_len, enc_take, enc_frz, enc_all]; first | done | omega))); (focus (simp only [encs_get, encs_len, enc_len, enc_take, enc_frz, enc_all, Heap.puts, Heap.put_app, Heap.put_app0, Heap.put_len, Heap.put, List.length_append, List.length_cons, List.length_nil, Nat.zero_add, Nat.reduceAdd] <;> rfl))) | with_reducible (first | refine aw_reg_d P_mixed ?_ | refine ar_done ?_ | refine aw_seq ?_ | refine aw_reg ?_ | refine aw_block ?_ | refine aw_skip ?_ | refine aw_exit ?_ | refine aw_ret ?_ | refine at_n ?_ | refine at_e ?_ | refine at_r ?_ | refine ab_n ?_ | refine ab_r ?_ | refine ab_e ?_ | refine ab_ne rfl ?_ | refine an_e ?_ | refine an_r ?_ | refine am_e ?_ | refine am_r ?_) | ((with_reducible apply aw_cond_f); (focus (simp only [go_sem, Nat.reduceLT, Nat.reduceAdd, Nat.reduceLeDiff, Nat.reduceMul, Nat.reduceEqDiff, Nat.reduceBEq, reduceIte, encs_get, encs_len, enc_len, enc_take, enc_frz, enc_all] <;> rfl))) | ((with_reducible apply aw_cond_t); (focus (simp only [go_sem, Nat.reduceLT, Nat.reduceAdd, Nat.reduceLeDiff, Nat.reduceMul, Nat.reduceEqDiff, Nat.reduceBEq, reduceIte, encs_get, encs_len, enc_len, enc_take, enc_frz, enc_all] <;> rfl))) | ((with_reducible apply aw_cond_d); (focus (simp only [go_sem, Nat.reduceLT, Nat.reduceAdd, Nat.reduceLeDiff, Nat.reduceMul, Nat.reduceEqDiff, Nat.reduceBEq, reduceIte, encs_get, encs_len, enc_len, enc_take, enc_frz, enc_all] <;> rfl)); all_goals (intro hcond; try (exfalso; omega))) | ((with_reducible first | apply ae_r | apply ae_n); (focus (simp only [go_sem, Nat.reduceLT, Nat.reduceAdd, Nat.reduceLeDiff, Nat.reduceMul, Nat.reduceEqDiff, Nat.reduceBEq, reduceIte, encs_get, encs_len, enc_len, enc_take, enc_frz, enc_all] <;> rfl))) | ((with_reducible apply ard_done); (focus rfl)))
    rfl

theorem eq_all (N : Nat) : (∀ v : GV, v.size < N → v.fits → PCall P 70 [.agg v.enc, .agg v.enc] (.bool true)) ∧
    (∀ l : List GV, sizes l < N → Len l → fitss l → PCall P 96 [.fsl 5 (encs l), .fsl 5 (encs l)] (.bool true)) := by
  induction N with
  | zero => exact ⟨fun v h => by omega, fun l h => by omega⟩
  | succ N ih =>
    have h1 : ∀ l : List GV, sizes l < N + 1 → Len l → fitss l → PCall P 96 [.fsl 5 (encs l), .fsl 5 (encs l)] (.bool true) :=
      fun l h c d => eqValueS_ok l c d fun v hv g => ih.1 v (by have := sizes_mem hv; omega) g
    exact ⟨fun v h c => eqValue_ok v c fun l hl g i => h1 l (by omega) g i, h1⟩
theorem eqValue_all (v : GV) (hf : v.fits) : PCall P 70 [.agg v.enc, .agg v.enc] (.bool true) := (eq_all (v.size + 1)).1 v (by omega) hf

theorem eqNode_ok (v : GN) (hf : v.fits) : PCall P 32 [.agg v.enc, .agg v.enc] (.bool true) := by
  obtain ⟨id, ty, c⟩ := v
  obtain ⟨f1, f2, f3⟩ := hf
  dsimp only at f1 f2 f3
  refine pcall_of_fcall (fcall_walk T_ok ok_32 rfl ?_)
  unfold Go.Proofs.Try.f32
  simp only [Option.getD_some, envOf, Nat.zero_add, Nat.reduceAdd, GN.enc]
  repeat' (first | ((with_reducible first | apply ar_w T_ok | apply ar_w0 T_ok | apply ard_w T_ok | apply ard_w0 T_ok); (focus (simp (disch := omega) only [go_sem, Nat.reduceLT, Nat.reduceAdd, Nat.reduceLeDiff, Nat.reduceMul, Nat.reduceEqDiff, Nat.reduceBEq, reduceIte, GN.enc, enc_len, enc_take, enc_frz, enc_all] <;> rfl)); (focus (first | rfl | (simp [okIdsB, Nat.ble_eq]; done))); (focus rfl); (focus (first | trivial | (simp only [preOK]; omega) | exact ⟨by first | trivial | rfl | omega, by assumption, by omega⟩ | (simp [preOK, AllBytes, GN.enc, enc_len, enc_take, enc_frz, enc_all]; first | done | omega))); (focus (simp only [GN.enc, enc_len, enc_take, enc_frz, enc_all, Heap.puts, Heap.put_app, Heap.put_app0, Heap.put_len, Heap.put, List.length_append, List.length_cons, List.length_nil, Nat.zero_add, Nat.reduceAdd] <;> rfl))) | with_reducible (first | refine aw_reg_d P_mixed ?_ | refine ar_done ?_ | refine aw_seq ?_ | refine aw_reg ?_ | refine aw_block ?_ | refine aw_skip ?_ | refine aw_exit ?_ | refine aw_ret ?_ | refine at_n ?_ | refine at_e ?_ | refine at_r ?_ | refine ab_n ?_ | refine ab_r ?_ | refine ab_e ?_ | refine ab_ne rfl ?_ | refine an_e ?_ | refine an_r ?_ | refine am_e ?_ | refine am_r ?_) | ((with_reducible apply aw_cond_f); (focus (simp only [go_sem, Nat.reduceLT, Nat.reduceAdd, Nat.reduceLeDiff, Nat.reduceMul, Nat.reduceEqDiff, Nat.reduceBEq, reduceIte, GN.enc, enc_len, enc_take, enc_frz, enc_all] <;> rfl))) | ((with_reducible apply aw_cond_t); (focus (simp only [go_sem, Nat.reduceLT, Nat.reduceAdd, Nat.reduceLeDiff, Nat.reduceMul, Nat.reduceEqDiff, Nat.reduceBEq, reduceIte, GN.enc, enc_len, enc_take, enc_frz, enc_all] <;> rfl))) | ((with_reducible apply aw_cond_d); (focus (simp only [go_sem, Nat.reduceLT, Nat.reduceAdd, Nat.reduceLeDiff, Nat.reduceMul, Nat.reduceEqDiff, Nat.reduceBEq, reduceIte, GN.enc, enc_len, enc_take, enc_frz, enc_all] <;> rfl)); all_goals (intro hcond; try (exfalso; omega))) | ((with_reducible first | apply ae_r | apply ae_n); (focus (simp only [go_sem, Nat.reduceLT, Nat.reduceAdd, Nat.reduceLeDiff, Nat.reduceMul, Nat.reduceEqDiff, Nat.reduceBEq, reduceIte, GN.enc, enc_len, enc_take, enc_frz, enc_all] <;> rfl))) | ((with_reducible apply ard_done); (focus rfl)))
  ((apply ar_call rfl ok_70); (focus (simp only [go_sem, Nat.reduceLT, Nat.reduceAdd, Nat.reduceLeDiff, Nat.reduceMul, Nat.reduceEqDiff, Nat.reduceBEq, reduceIte, GN.enc, enc_len, enc_take, enc_frz, enc_all, List.map] <;> rfl)); (focus exact eqValue_all c f3); (focus rfl); (focus rfl))
  repeat' (first | ((with_reducible first | apply ar_w T_ok | apply ar_w0 T_ok | apply ard_w T_ok | apply ard_w0 T_ok); (focus (simp (disch := omega) only [go_sem, Nat.reduceLT, Nat.reduceAdd, Nat.reduceLeDiff, Nat.reduceMul, Nat.reduceEqDiff, Nat.reduceBEq, reduceIte, GN.enc, enc_len, enc_take, enc_frz, enc_all] <;> rfl)); (focus (first | rfl | (simp [okIdsB, Nat.ble_eq]; done))); (focus rfl); (focus (first | trivial | (simp only [preOK]; omega) | exact ⟨by first | trivial | rfl | omega, by assumption, by omega⟩ | (simp [preOK, AllBytes, GN.enc, enc_len, enc_take, enc_frz, enc_all]; first | done | omega))); (focus (simp only [GN.enc, enc_len, enc_take, enc_frz, enc_all, Heap.puts, Heap.put_app, Heap.put_app0, Heap.put_len, Heap.put, List.length_append, List.length_cons, List.length_nil, Nat.zero_add, Nat.reduceAdd] <;> rfl))) | with_reducible (first | refine aw_reg_d P_mixed ?_ | refine ar_done ?_ | refine aw_seq ?_ | refine aw_reg ?_ | refine aw_block ?_ | refine aw_skip ?_ | refine aw_exit ?_ | refine aw_ret ?_ | refine at_n ?_ | refine at_e ?_ | refine at_r ?_ | refine ab_n ?_ | refine ab_r ?_ | refine ab_e ?_ | refine ab_ne rfl ?_ | refine an_e ?_ | refine an_r ?_ | refine am_e ?_ | refine am_r ?_) | ((with_reducible apply aw_cond_f); (focus (simp only [go_sem, Nat.reduceLT, Nat.reduceAdd, Nat.reduceLeDiff, Nat.reduceMul, Nat.reduceEqDiff, Nat.reduceBEq, reduceIte, GN.enc, enc_len, enc_take, enc_frz, enc_all] <;> rfl))) | ((with_reducible apply aw_cond_t); (focus (simp only [go_sem, Nat.reduceLT, Nat.reduceAdd, Nat.reduceLeDiff, Nat.reduceMul, Nat.reduceEqDiff, Nat.reduceBEq, reduceIte, GN.enc, enc_len, enc_take, enc_frz, enc_all] <;> rfl))) | ((with_reducible apply aw_cond_d); (focus (simp only [go_sem, Nat.reduceLT, Nat.reduceAdd, Nat.reduceLeDiff, Nat.reduceMul, Nat.reduceEqDiff, Nat.reduceBEq, reduceIte, GN.enc, enc_len, enc_take, enc_frz, enc_all] <;> rfl)); all_goals (intro hcond; try (exfalso; omega))) | ((with_reducible first | apply ae_r | apply ae_n); (focus (simp only [go_sem, Nat.reduceLT, Nat.reduceAdd, Nat.reduceLeDiff, Nat.reduceMul, Nat.reduceEqDiff, Nat.reduceBEq, reduceIte, GN.enc, enc_len, enc_take, enc_frz, enc_all] <;> rfl))) | ((with_reducible apply ard_done); (focus rfl)))
  rfl

theorem eqNodeS_ok (l : List GN) (h2 : Len l) (hf : ∀ v ∈ l, v.fits) : PCall P 11 [.fsl 7 (encn l), .fsl 7 (encn l)] (.bool true) := by
  refine pcall_of_fcall (fcall_walk T_ok ok_11 rfl ?_)
  unfold Go.Proofs.Try.f11
  simp only [Option.getD_some, envOf, Nat.zero_add, Nat.reduceAdd]
  repeat' (first | ((with_reducible first | apply ar_w T_ok | apply ar_w0 T_ok | apply ard_w T_ok | apply ard_w0 T_ok); (focus (simp (disch := omega) only [go_sem, Nat.reduceLT, Nat.reduceAdd, Nat.reduceLeDiff, Nat.reduceMul, Nat.reduceEqDiff, Nat.reduceBEq, reduceIte, encn_get, encn_len, nenc_len, nenc_take, nenc_frz] <;> rfl)); (focus (first | rfl | (simp [okIdsB, Nat.ble_eq]; done))); (focus rfl); (focus (first | trivial | (simp only [preOK]; omega) | exact ⟨by first | trivial | rfl | omega, by assumption, by omega⟩ | (simp [preOK, AllBytes, encn_get, encn_len, nenc_len, nenc_take, nenc_frz]; first | done | omega))); (focus (simp only [encn_get, encn_len, nenc_len, nenc_take, nenc_frz, Heap.puts, Heap.put_app, Heap.put_app0, Heap.put_len, Heap.put, List.length_append, List.length_cons, List.length_nil, Nat.zero_add, Nat.reduceAdd] <;> rfl))) | with_reducible (first | refine aw_reg_d P_mixed ?_ | refine ar_done ?_ | refine aw_seq ?_ | refine aw_reg ?_ | refine aw_block ?_ | refine aw_skip ?_ | refine aw_exit ?_ | refine aw_ret ?_ | refine at_n ?_ | refine at_e ?_ | refine at_r ?_ | refine ab_n ?_ | refine ab_r ?_ | refine ab_e ?_ | refine ab_ne rfl ?_ | refine an_e ?_ | refine an_r ?_ | refine am_e ?_ | refine am_r ?_) | ((with_reducible apply aw_cond_f); (focus (simp only [go_sem, Nat.reduceLT, Nat.reduceAdd, Nat.reduceLeDiff, Nat.reduceMul, Nat.reduceEqDiff, Nat.reduceBEq, reduceIte, encn_get, encn_len, nenc_len, nenc_take, nenc_frz] <;> rfl))) | ((with_reducible apply aw_cond_t); (focus (simp only [go_sem, Nat.reduceLT, Nat.reduceAdd, Nat.reduceLeDiff, Nat.reduceMul, Nat.reduceEqDiff, Nat.reduceBEq, reduceIte, encn_get, encn_len, nenc_len, nenc_take, nenc_frz] <;> rfl))) | ((with_reducible apply aw_cond_d); (focus (simp only [go_sem, Nat.reduceLT, Nat.reduceAdd, Nat.reduceLeDiff, Nat.reduceMul, Nat.reduceEqDiff, Nat.reduceBEq, reduceIte, encn_get, encn_len, nenc_len, nenc_take, nenc_frz] <;> rfl)); all_goals (intro hcond; try (exfalso; omega))) | ((with_reducible first | apply ae_r | apply ae_n); (focus (simp only [go_sem, Nat.reduceLT, Nat.reduceAdd, Nat.reduceLeDiff, Nat.reduceMul, Nat.reduceEqDiff, Nat.reduceBEq, reduceIte, encn_get, encn_len, nenc_len, nenc_take, nenc_frz] <;> rfl))) | ((with_reducible apply ard_done); (focus rfl)))
  refine aw_loopc (fun k env H => ∃ (i : Nat), i ≤ l.length ∧ k = l.length - i ∧ H = [] ∧ env = [(0, .fsl 7 (encn l)), (1, .fsl 7 (encn l)), (5, .int .i64 i)]) l.length
      [(0, .fsl 7 (encn l)), (1, .fsl 7 (encn l)), (5, .int .i64 0)] [] (by simp [subP, Env.get, Weak.refl]) rfl trivial rfl rfl ⟨0, Nat.zero_le _, rfl, rfl, rfl⟩ ?_
  rintro k env H ⟨i, hi, hk, rfl, rfl⟩
  by_cases hlt : i < l.length
  · have hff := hf _ (mem_getD (d := default) hlt)
    repeat' (first | ((with_reducible first | apply ar_w T_ok | apply ar_w0 T_ok | apply ard_w T_ok | apply ard_w0 T_ok); (focus (simp (disch := omega) only [go_sem, Nat.reduceLT, Nat.reduceAdd, Nat.reduceLeDiff, Nat.reduceMul, Nat.reduceEqDiff, Nat.reduceBEq, reduceIte, encn_get, encn_len, nenc_len, nenc_take, nenc_frz] <;> rfl)); (focus (first | rfl | (simp [okIdsB, Nat.ble_eq]; done))); (focus rfl); (focus (first | trivial | (simp only [preOK]; omega) | exact ⟨by first | trivial | rfl | omega, by assumption, by omega⟩ | (simp [preOK, AllBytes, encn_get, encn_len, nenc_len, nenc_take, nenc_frz]; first | done | omega))); (focus (simp only [encn_get, encn_len, nenc_len, nenc_take, nenc_frz, Heap.puts, Heap.put_app, Heap.put_app0, Heap.put_len, Heap.put, List.length_append, List.length_cons, List.length_nil, Nat.zero_add, Nat.reduceAdd] <;> rfl))) | with_reducible (first | refine aw_reg_d P_mixed ?_ | refine ar_done ?_ | refine aw_seq ?_ | refine aw_reg ?_ | refine aw_block ?_ | refine aw_skip ?_ | refine aw_exit ?_ | refine aw_ret ?_ | refine at_n ?_ | refine at_e ?_ | refine at_r ?_ | refine ab_n ?_ | refine ab_r ?_ | refine ab_e ?_ | refine ab_ne rfl ?_ | refine an_e ?_ | refine an_r ?_ | refine am_e ?_ | refine am_r ?_) | ((with_reducible apply aw_cond_f); (focus (simp only [go_sem, Nat.reduceLT, Nat.reduceAdd, Nat.reduceLeDiff, Nat.reduceMul, Nat.reduceEqDiff, Nat.reduceBEq, reduceIte, encn_get, encn_len, nenc_len, nenc_take, nenc_frz] <;> rfl))) | ((with_reducible apply aw_cond_t); (focus (simp only [go_sem, Nat.reduceLT, Nat.reduceAdd, Nat.reduceLeDiff, Nat.reduceMul, Nat.reduceEqDiff, Nat.reduceBEq, reduceIte, encn_get, encn_len, nenc_len, nenc_take, nenc_frz] <;> rfl))) | ((with_reducible apply aw_cond_d); (focus (simp only [go_sem, Nat.reduceLT, Nat.reduceAdd, Nat.reduceLeDiff, Nat.reduceMul, Nat.reduceEqDiff, Nat.reduceBEq, reduceIte, encn_get, encn_len, nenc_len, nenc_take, nenc_frz] <;> rfl)); all_goals (intro hcond; try (exfalso; omega))) | ((with_reducible first | apply ae_r | apply ae_n); (focus (simp only [go_sem, Nat.reduceLT, Nat.reduceAdd, Nat.reduceLeDiff, Nat.reduceMul, Nat.reduceEqDiff, Nat.reduceBEq, reduceIte, encn_get, encn_len, nenc_len, nenc_take, nenc_frz] <;> rfl))) | ((with_reducible apply ard_done); (focus rfl)))
    ((apply ard_call rfl ok_32); (focus (simp only [go_sem, Nat.reduceLT, Nat.reduceAdd, Nat.reduceLeDiff, Nat.reduceMul, Nat.reduceEqDiff, Nat.reduceBEq, reduceIte, encn_get, encn_len, nenc_len, nenc_take, nenc_frz, List.map] <;> rfl)); (focus exact eqNode_ok _ hff); (focus rfl); (focus rfl))
    repeat' (first | ((with_reducible first | apply ar_w T_ok | apply ar_w0 T_ok | apply ard_w T_ok | apply ard_w0 T_ok); (focus (simp (disch := omega) only [go_sem, Nat.reduceLT, Nat.reduceAdd, Nat.reduceLeDiff, Nat.reduceMul, Nat.reduceEqDiff, Nat.reduceBEq, reduceIte, encn_get, encn_len, nenc_len, nenc_take, nenc_frz] <;> rfl)); (focus (first | rfl | (simp [okIdsB, Nat.ble_eq]; done))); (focus rfl); (focus (first | trivial | (simp only [preOK]; omega) | exact ⟨by first | trivial | rfl | omega, by assumption, by omega⟩ | (simp [preOK, AllBytes, encn_get, encn_len, nenc_len, nenc_take, nenc_frz]; first | done | omega))); (focus (simp only [encn_get, encn_len, nenc_len, nenc_take, nenc_frz, Heap.puts, Heap.put_app, Heap.put_app0, Heap.put_len, Heap.put, List.length_append, List.length_cons, List.length_nil, Nat.zero_add, Nat.reduceAdd] <;> rfl))) | with_reducible (first | refine aw_reg_d P_mixed ?_ | refine ar_done ?_ | refine aw_seq ?_ | refine aw_reg ?_ | refine aw_block ?_ | refine aw_skip ?_ | refine aw_exit ?_ | refine aw_ret ?_ | refine at_n ?_ | refine at_e ?_ | refine at_r ?_ | refine ab_n ?_ | refine ab_r ?_ | refine ab_e ?_ | refine ab_ne rfl ?_ | refine an_e ?_ | refine an_r ?_ | refine am_e ?_ | refine am_r ?_) | ((with_reducible apply aw_cond_f); (focus (simp only [go_sem, Nat.reduceLT, Nat.reduceAdd, Nat.reduceLeDiff, Nat.reduceMul, Nat.reduceEqDiff, Nat.reduceBEq, reduceIte, encn_get, encn_len, nenc_len, nenc_take, nenc_frz] <;> rfl))) | ((with_reducible apply aw_cond_t); (focus (simp only [go_sem, Nat.reduceLT, Nat.reduceAdd, Nat.reduceLeDiff, Nat.reduceMul, Nat.reduceEqDiff, Nat.reduceBEq, reduceIte, encn_get, encn_len, nenc_len, nenc_take, nenc_frz] <;> rfl))) | ((with_reducible apply aw_cond_d); (focus (simp only [go_sem, Nat.reduceLT, Nat.reduceAdd, Nat.reduceLeDiff, Nat.reduceMul, Nat.reduceEqDiff, Nat.reduceBEq, reduceIte, encn_get, encn_len, nenc_len, nenc_take, nenc_frz] <;> rfl)); all_goals (intro hcond; try (exfalso; omega))) | ((with_reducible first | apply ae_r | apply ae_n); (focus (simp only [go_sem, Nat.reduceLT, Nat.reduceAdd, Nat.reduceLeDiff, Nat.reduceMul, Nat.reduceEqDiff, Nat.reduceBEq, reduceIte, encn_get, encn_len, nenc_len, nenc_take, nenc_frz] <;> rfl))) | ((with_reducible apply ard_done); (focus rfl)))
    exact anext0 [(0, .fsl 7 (encn l)), (1, .fsl 7 (encn l)), (5, .int .i64 (i + 1 : Nat))] [] (k' := l.length - (i + 1)) (by omega) (by simp [subP, Env.get, Weak.refl]) rfl trivial rfl rfl ⟨i + 1, by omega, rfl, rfl, rfl⟩
  · have : i = l.length := by omega
    subst this
    repeat' (first | ((with_reducible first | apply ar_w T_ok | apply ar_w0 T_ok | apply ard_w T_ok | apply ard_w0 T_ok); (focus (simp (disch := omega) only [go_sem, Nat.reduceLT, Nat.reduceAdd, Nat.reduceLeDiff, Nat.reduceMul, Nat.reduceEqDiff, Nat.reduceBEq, reduceIte, encn_get, encn_len, nenc_len, nenc_take, nenc_frz] <;> rfl)); (focus (first | rfl | (simp [okIdsB, Nat.ble_eq]; done))); (focus rfl); (focus (first | trivial | (simp only [preOK]; omega) | exact ⟨by first | trivial | rfl | omega, by assumption, by omega⟩ | (simp [preOK, AllBytes, encn_get, encn_len, nenc_len, nenc_take, nenc_frz]; first | done | omega))); (focus (simp only [encn_get, encn_len, nenc_len, nenc_take, nenc_frz, Heap.puts, Heap.put_app, Heap.put_app0, Heap.put_len, Heap.put, List.length_append, List.length_cons, List.length_nil, Nat.zero_add, Nat.reduceAdd] <;> rfl))) | with_reducible (first | refine aw_reg_d P_mixed ?_ | refine ar_done ?_ | refine aw_seq ?_ | refine aw_reg ?_ | refine aw_block ?_ | refine aw_skip ?_ | refine aw_exit ?_ | refine aw_ret ?_ | refine at_n ?_ | refine at_e ?_ | refine at_r ?_ | refine ab_n ?_ | refine ab_r ?_ | refine ab_e ?_ | refine ab_ne rfl ?_ | refine an_e ?_ | refine an_r ?_ | refine am_e ?_ | refine am_r ?_) | ((with_reducible apply aw_cond_f); (focus (simp only [go_sem, Nat.reduceLT, Nat.reduceAdd, Nat.reduceLeDiff, Nat.reduceMul, Nat.reduceEqDiff, Nat.reduceBEq, reduceIte, encn_get, encn_len, nenc_len, nenc_take, nenc_frz] <;> rfl))) | ((with_reducible apply aw_cond_t); (focus (simp only [go_sem, Nat.reduceLT, Nat.reduceAdd, Nat.reduceLeDiff, Nat.reduceMul, Nat.reduceEqDiff, Nat.reduceBEq, reduceIte, encn_get, encn_len, nenc_len, nenc_take, nenc_frz] <;> rfl))) | ((with_reducible apply aw_cond_d); (focus (simp only [go_sem, Nat.reduceLT, Nat.reduceAdd, Nat.reduceLeDiff, Nat.reduceMul, Nat.reduceEqDiff, Nat.reduceBEq, reduceIte, encn_get, encn_len, nenc_len, nenc_take, nenc_frz] <;> rfl)); all_goals (intro hcond; try (exfalso; omega))) | ((with_reducible first | apply ae_r | apply ae_n); (focus (simp only [go_sem, Nat.reduceLT, Nat.reduceAdd, Nat.reduceLeDiff, Nat.reduceMul, Nat.reduceEqDiff, Nat.reduceBEq, reduceIte, encn_get, encn_len, nenc_len, nenc_take, nenc_frz] <;> rfl))) | ((with_reducible apply ard_done); (focus rfl)))
    rfl
end Go.Av
set_option linter.unusedVariables false
set_option linter.unusedSimpArgs false
namespace Go.Av
open Go
set_option maxRecDepth 10000

structure GW where
  id : Int
  name : List UInt8
  doc : List UInt8
  given : List UInt8
  last : List UInt8
instance : Inhabited GW := ⟨0, [], [], [], []⟩
def GW.enc (w : GW) : List AV := [.int .i64 w.id, .str w.name, .str w.doc, .str w.given, .str w.last]
def encw (l : List GW) : List (List AV) := l.map GW.enc
def GW.fits (w : GW) : Prop := I64 w.id ∧ Len w.name ∧ Len w.doc ∧ Len w.given ∧ Len w.last
theorem encw_len (l : List GW) : (encw l).length = l.length := by simp [encw]
theorem encw_get {l : List GW} {i : Nat} (h : i < l.length) : (encw l).getD i [] = (l.getD i default).enc := by
  simp [encw, List.getD_eq_getElem?_getD, h]
theorem encw_take {l : List GW} {i : Nat} (h : i < l.length) : encw (l.take (i + 1)) = encw (l.take i) ++ [(l.getD i default).enc] := by
  rw [List.take_succ_eq_append_getElem h, encw, encw, List.map_append, List.getD_eq_getElem?_getD, List.getElem?_eq_getElem h]; rfl

theorem eqWatch_ok (v : GW) : PCall P 69 [.agg v.enc, .agg v.enc] (.bool true) := by
  obtain ⟨id, a, b, c, d⟩ := v
  refine pcall_of_fcall (fcall_walk T_ok ok_69 rfl ?_)
  unfold Go.Proofs.Try.f69
  simp only [Option.getD_some, envOf, Nat.zero_add, Nat.reduceAdd, GW.enc]
  repeat' (first | ((with_reducible first | apply ar_w T_ok | apply ar_w0 T_ok | apply ard_w T_ok | apply ard_w0 T_ok); (focus (simp (disch := omega) only [go_sem, Nat.reduceLT, Nat.reduceAdd, Nat.reduceLeDiff, Nat.reduceMul, Nat.reduceEqDiff, Nat.reduceBEq, reduceIte, GW.enc] <;> rfl)); (focus (first | rfl | (simp [okIdsB, Nat.ble_eq]; done))); (focus rfl); (focus (first | trivial | (simp only [preOK]; omega) | exact ⟨by first | trivial | rfl | omega, by assumption, by omega⟩ | (simp [preOK, AllBytes, GW.enc]; first | done | omega))); (focus (simp only [GW.enc, Heap.puts, Heap.put_app, Heap.put_app0, Heap.put_len, Heap.put, List.length_append, List.length_cons, List.length_nil, Nat.zero_add, Nat.reduceAdd] <;> rfl))) | with_reducible (first | refine aw_reg_d P_mixed ?_ | refine ar_done ?_ | refine aw_seq ?_ | refine aw_reg ?_ | refine aw_block ?_ | refine aw_skip ?_ | refine aw_exit ?_ | refine aw_ret ?_ | refine at_n ?_ | refine at_e ?_ | refine at_r ?_ | refine ab_n ?_ | refine ab_r ?_ | refine ab_e ?_ | refine ab_ne rfl ?_ | refine an_e ?_ | refine an_r ?_ | refine am_e ?_ | refine am_r ?_) | ((with_reducible apply aw_cond_f); (focus (simp only [go_sem, Nat.reduceLT, Nat.reduceAdd, Nat.reduceLeDiff, Nat.reduceMul, Nat.reduceEqDiff, Nat.reduceBEq, reduceIte, GW.enc] <;> rfl))) | ((with_reducible apply aw_cond_t); (focus (simp only [go_sem, Nat.reduceLT, Nat.reduceAdd, Nat.reduceLeDiff, Nat.reduceMul, Nat.reduceEqDiff, Nat.reduceBEq, reduceIte, GW.enc] <;> rfl))) | ((with_reducible apply aw_cond_d); (focus (simp only [go_sem, Nat.reduceLT, Nat.reduceAdd, Nat.reduceLeDiff, Nat.reduceMul, Nat.reduceEqDiff, Nat.reduceBEq, reduceIte, GW.enc] <;> rfl)); all_goals (intro hcond; try (exfalso; omega))) | ((with_reducible first | apply ae_r | apply ae_n); (focus (simp only [go_sem, Nat.reduceLT, Nat.reduceAdd, Nat.reduceLeDiff, Nat.reduceMul, Nat.reduceEqDiff, Nat.reduceBEq, reduceIte, GW.enc] <;> rfl))) | ((with_reducible apply ard_done); (focus rfl)))
  rfl

theorem eqWatchS_ok (l : List GW) (h2 : Len l) : PCall P 31 [.fsl 5 (encw l), .fsl 5 (encw l)] (.bool true) := by
  refine pcall_of_fcall (fcall_walk T_ok ok_31 rfl ?_)
  unfold Go.Proofs.Try.f31
  simp only [Option.getD_some, envOf, Nat.zero_add, Nat.reduceAdd]
  repeat' (first | ((with_reducible first | apply ar_w T_ok | apply ar_w0 T_ok | apply ard_w T_ok | apply ard_w0 T_ok); (focus (simp (disch := omega) only [go_sem, Nat.reduceLT, Nat.reduceAdd, Nat.reduceLeDiff, Nat.reduceMul, Nat.reduceEqDiff, Nat.reduceBEq, reduceIte, encw_get, encw_len, GW.enc] <;> rfl)); (focus (first | rfl | (simp [okIdsB, Nat.ble_eq]; done))); (focus rfl); (focus (first | trivial | (simp only [preOK]; omega) | exact ⟨by first | trivial | rfl | omega, by assumption, by omega⟩ | (simp [preOK, AllBytes, encw_get, encw_len, GW.enc]; first | done | omega))); (focus (simp only [encw_get, encw_len, GW.enc, Heap.puts, Heap.put_app, Heap.put_app0, Heap.put_len, Heap.put, List.length_append, List.length_cons, List.length_nil, Nat.zero_add, Nat.reduceAdd] <;> rfl))) | with_reducible (first | refine aw_reg_d P_mixed ?_ | refine ar_done ?_ | refine aw_seq ?_ | refine aw_reg ?_ | refine aw_block ?_ | refine aw_skip ?_ | refine aw_exit ?_ | refine aw_ret ?_ | refine at_n ?_ | refine at_e ?_ | refine at_r ?_ | refine ab_n ?_ | refine ab_r ?_ | refine ab_e ?_ | refine ab_ne rfl ?_ | refine an_e ?_ | refine an_r ?_ | refine am_e ?_ | refine am_r ?_) | ((with_reducible apply aw_cond_f); (focus (simp only [go_sem, Nat.reduceLT, Nat.reduceAdd, Nat.reduceLeDiff, Nat.reduceMul, Nat.reduceEqDiff, Nat.reduceBEq, reduceIte, encw_get, encw_len, GW.enc] <;> rfl))) | ((with_reducible apply aw_cond_t); (focus (simp only [go_sem, Nat.reduceLT, Nat.reduceAdd, Nat.reduceLeDiff, Nat.reduceMul, Nat.reduceEqDiff, Nat.reduceBEq, reduceIte, encw_get, encw_len, GW.enc] <;> rfl))) | ((with_reducible apply aw_cond_d); (focus (simp only [go_sem, Nat.reduceLT, Nat.reduceAdd, Nat.reduceLeDiff, Nat.reduceMul, Nat.reduceEqDiff, Nat.reduceBEq, reduceIte, encw_get, encw_len, GW.enc] <;> rfl)); all_goals (intro hcond; try (exfalso; omega))) | ((with_reducible first | apply ae_r | apply ae_n); (focus (simp only [go_sem, Nat.reduceLT, Nat.reduceAdd, Nat.reduceLeDiff, Nat.reduceMul, Nat.reduceEqDiff, Nat.reduceBEq, reduceIte, encw_get, encw_len, GW.enc] <;> rfl))) | ((with_reducible apply ard_done); (focus rfl)))
  refine aw_loopc (fun k env H => ∃ (i : Nat), i ≤ l.length ∧ k = l.length - i ∧ H = [] ∧ env = [(0, .fsl 5 (encw l)), (1, .fsl 5 (encw l)), (5, .int .i64 i)]) l.length
      [(0, .fsl 5 (encw l)), (1, .fsl 5 (encw l)), (5, .int .i64 0)] [] (by simp [subP, Env.get, Weak.refl]) rfl trivial rfl rfl ⟨0, Nat.zero_le _, rfl, rfl, rfl⟩ ?_
  rintro k env H ⟨i, hi, hk, rfl, rfl⟩
  by_cases hlt : i < l.length
  · repeat' (first | ((with_reducible first | apply ar_w T_ok | apply ar_w0 T_ok | apply ard_w T_ok | apply ard_w0 T_ok); (focus (simp (disch := omega) only [go_sem, Nat.reduceLT, Nat.reduceAdd, Nat.reduceLeDiff, Nat.reduceMul, Nat.reduceEqDiff, Nat.reduceBEq, reduceIte, encw_get, encw_len, GW.enc] <;> rfl)); (focus (first | rfl | (simp [okIdsB, Nat.ble_eq]; done))); (focus rfl); (focus (first | trivial | (simp only [preOK]; omega) | exact ⟨by first | trivial | rfl | omega, by assumption, by omega⟩ | (simp [preOK, AllBytes, encw_get, encw_len, GW.enc]; first | done | omega))); (focus (simp only [encw_get, encw_len, GW.enc, Heap.puts, Heap.put_app, Heap.put_app0, Heap.put_len, Heap.put, List.length_append, List.length_cons, List.length_nil, Nat.zero_add, Nat.reduceAdd] <;> rfl))) | with_reducible (first | refine aw_reg_d P_mixed ?_ | refine ar_done ?_ | refine aw_seq ?_ | refine aw_reg ?_ | refine aw_block ?_ | refine aw_skip ?_ | refine aw_exit ?_ | refine aw_ret ?_ | refine at_n ?_ | refine at_e ?_ | refine at_r ?_ | refine ab_n ?_ | refine ab_r ?_ | refine ab_e ?_ | refine ab_ne rfl ?_ | refine an_e ?_ | refine an_r ?_ | refine am_e ?_ | refine am_r ?_) | ((with_reducible apply aw_cond_f); (focus (simp only [go_sem, Nat.reduceLT, Nat.reduceAdd, Nat.reduceLeDiff, Nat.reduceMul, Nat.reduceEqDiff, Nat.reduceBEq, reduceIte, encw_get, encw_len, GW.enc] <;> rfl))) | ((with_reducible apply aw_cond_t); (focus (simp only [go_sem, Nat.reduceLT, Nat.reduceAdd, Nat.reduceLeDiff, Nat.reduceMul, Nat.reduceEqDiff, Nat.reduceBEq, reduceIte, encw_get, encw_len, GW.enc] <;> rfl))) | ((with_reducible apply aw_cond_d); (focus (simp only [go_sem, Nat.reduceLT, Nat.reduceAdd, Nat.reduceLeDiff, Nat.reduceMul, Nat.reduceEqDiff, Nat.reduceBEq, reduceIte, encw_get, encw_len, GW.enc] <;> rfl)); all_goals (intro hcond; try (exfalso; omega))) | ((with_reducible first | apply ae_r | apply ae_n); (focus (simp only [go_sem, Nat.reduceLT, Nat.reduceAdd, Nat.reduceLeDiff, Nat.reduceMul, Nat.reduceEqDiff, Nat.reduceBEq, reduceIte, encw_get, encw_len, GW.enc] <;> rfl))) | ((with_reducible apply ard_done); (focus rfl)))
    ((apply ard_call rfl ok_69); (focus (simp only [go_sem, Nat.reduceLT, Nat.reduceAdd, Nat.reduceLeDiff, Nat.reduceMul, Nat.reduceEqDiff, Nat.reduceBEq, reduceIte, encw_get, encw_len, GW.enc, List.map] <;> rfl)); (focus exact eqWatch_ok (l.getD i default)); (focus rfl); (focus rfl))
    repeat' (first | ((with_reducible first | apply ar_w T_ok | apply ar_w0 T_ok | apply ard_w T_ok | apply ard_w0 T_ok); (focus (simp (disch := omega) only [go_sem, Nat.reduceLT, Nat.reduceAdd, Nat.reduceLeDiff, Nat.reduceMul, Nat.reduceEqDiff, Nat.reduceBEq, reduceIte, encw_get, encw_len, GW.enc] <;> rfl)); (focus (first | rfl | (simp [okIdsB, Nat.ble_eq]; done))); (focus rfl); (focus (first | trivial | (simp only [preOK]; omega) | exact ⟨by first | trivial | rfl | omega, by assumption, by omega⟩ | (simp [preOK, AllBytes, encw_get, encw_len, GW.enc]; first | done | omega))); (focus (simp only [encw_get, encw_len, GW.enc, Heap.puts, Heap.put_app, Heap.put_app0, Heap.put_len, Heap.put, List.length_append, List.length_cons, List.length_nil, Nat.zero_add, Nat.reduceAdd] <;> rfl))) | with_reducible (first | refine aw_reg_d P_mixed ?_ | refine ar_done ?_ | refine aw_seq ?_ | refine aw_reg ?_ | refine aw_block ?_ | refine aw_skip ?_ | refine aw_exit ?_ | refine aw_ret ?_ | refine at_n ?_ | refine at_e ?_ | refine at_r ?_ | refine ab_n ?_ | refine ab_r ?_ | refine ab_e ?_ | refine ab_ne rfl ?_ | refine an_e ?_ | refine an_r ?_ | refine am_e ?_ | refine am_r ?_) | ((with_reducible apply aw_cond_f); (focus (simp only [go_sem, Nat.reduceLT, Nat.reduceAdd, Nat.reduceLeDiff, Nat.reduceMul, Nat.reduceEqDiff, Nat.reduceBEq, reduceIte, encw_get, encw_len, GW.enc] <;> rfl))) | ((with_reducible apply aw_cond_t); (focus (simp only [go_sem, Nat.reduceLT, Nat.reduceAdd, Nat.reduceLeDiff, Nat.reduceMul, Nat.reduceEqDiff, Nat.reduceBEq, reduceIte, encw_get, encw_len, GW.enc] <;> rfl))) | ((with_reducible apply aw_cond_d); (focus (simp only [go_sem, Nat.reduceLT, Nat.reduceAdd, Nat.reduceLeDiff, Nat.reduceMul, Nat.reduceEqDiff, Nat.reduceBEq, reduceIte, encw_get, encw_len, GW.enc] <;> rfl)); all_goals (intro hcond; try (exfalso; omega))) | ((with_reducible first | apply ae_r | apply ae_n); (focus (simp only [go_sem, Nat.reduceLT, Nat.reduceAdd, Nat.reduceLeDiff, Nat.reduceMul, Nat.reduceEqDiff, Nat.reduceBEq, reduceIte, encw_get, encw_len, GW.enc] <;> rfl))) | ((with_reducible apply ard_done); (focus rfl)))
    exact anext0 [(0, .fsl 5 (encw l)), (1, .fsl 5 (encw l)), (5, .int .i64 (i + 1 : Nat))] [] (k' := l.length - (i + 1)) (by omega) (by simp [subP, Env.get, Weak.refl]) rfl trivial rfl rfl ⟨i + 1, by omega, rfl, rfl, rfl⟩
  · have : i = l.length := by omega
    subst this
    repeat' (first | ((with_reducible first | apply ar_w T_ok | apply ar_w0 T_ok | apply ard_w T_ok | apply ard_w0 T_ok); (focus (simp (disch := omega) only [go_sem, Nat.reduceLT, Nat.reduceAdd, Nat.reduceLeDiff, Nat.reduceMul, Nat.reduceEqDiff, Nat.reduceBEq, reduceIte, encw_get, encw_len, GW.enc] <;> rfl)); (focus (first | rfl | (simp [okIdsB, Nat.ble_eq]; done))); (focus rfl); (focus (first | trivial | (simp only [preOK]; omega) | exact ⟨by first | trivial | rfl | omega, by assumption, by omega⟩ | (simp [preOK, AllBytes, encw_get, encw_len, GW.enc]; first | done | omega))); (focus (simp only [encw_get, encw_len, GW.enc, Heap.puts, Heap.put_app, Heap.put_app0, Heap.put_len, Heap.put, List.length_append, List.length_cons, List.length_nil, Nat.zero_add, Nat.reduceAdd] <;> rfl))) | with_reducible (first | refine aw_reg_d P_mixed ?_ | refine ar_done ?_ | refine aw_seq ?_ | refine aw_reg ?_ | refine aw_block ?_ | refine aw_skip ?_ | refine aw_exit ?_ | refine aw_ret ?_ | refine at_n ?_ | refine at_e ?_ | refine at_r ?_ | refine ab_n ?_ | refine ab_r ?_ | refine ab_e ?_ | refine ab_ne rfl ?_ | refine an_e ?_ | refine an_r ?_ | refine am_e ?_ | refine am_r ?_) | ((with_reducible apply aw_cond_f); (focus (simp only [go_sem, Nat.reduceLT, Nat.reduceAdd, Nat.reduceLeDiff, Nat.reduceMul, Nat.reduceEqDiff, Nat.reduceBEq, reduceIte, encw_get, encw_len, GW.enc] <;> rfl))) | ((with_reducible apply aw_cond_t); (focus (simp only [go_sem, Nat.reduceLT, Nat.reduceAdd, Nat.reduceLeDiff, Nat.reduceMul, Nat.reduceEqDiff, Nat.reduceBEq, reduceIte, encw_get, encw_len, GW.enc] <;> rfl))) | ((with_reducible apply aw_cond_d); (focus (simp only [go_sem, Nat.reduceLT, Nat.reduceAdd, Nat.reduceLeDiff, Nat.reduceMul, Nat.reduceEqDiff, Nat.reduceBEq, reduceIte, encw_get, encw_len, GW.enc] <;> rfl)); all_goals (intro hcond; try (exfalso; omega))) | ((with_reducible first | apply ae_r | apply ae_n); (focus (simp only [go_sem, Nat.reduceLT, Nat.reduceAdd, Nat.reduceLeDiff, Nat.reduceMul, Nat.reduceEqDiff, Nat.reduceBEq, reduceIte, encw_get, encw_len, GW.enc] <;> rfl))) | ((with_reducible apply ard_done); (focus rfl)))
    rfl

theorem eqHub_ok (l : List GN) (w : List GW) (h2 : Len l) (hf : ∀ v ∈ l, v.fits) (h3 : Len w) : PCall P 10 [.agg [.fsl 7 (encn l), .fsl 5 (encw w)], .agg [.fsl 7 (encn l), .fsl 5 (encw w)]] (.bool true) := by
  refine pcall_of_fcall (fcall_walk T_ok ok_10 rfl ?_)
  unfold Go.Proofs.Try.f10
  simp only [Option.getD_some, envOf, Nat.zero_add, Nat.reduceAdd]
  repeat' (first | ((with_reducible first | apply ar_w T_ok | apply ar_w0 T_ok | apply ard_w T_ok | apply ard_w0 T_ok); (focus (simp (disch := omega) only [go_sem, Nat.reduceLT, Nat.reduceAdd, Nat.reduceLeDiff, Nat.reduceMul, Nat.reduceEqDiff, Nat.reduceBEq, reduceIte, encn_len, encw_len] <;> rfl)); (focus (first | rfl | (simp [okIdsB, Nat.ble_eq]; done))); (focus rfl); (focus (first | trivial | (simp only [preOK]; omega) | exact ⟨by first | trivial | rfl | omega, by assumption, by omega⟩ | (simp [preOK, AllBytes, encn_len, encw_len]; first | done | omega))); (focus (simp only [encn_len, encw_len, Heap.puts, Heap.put_app, Heap.put_app0, Heap.put_len, Heap.put, List.length_append, List.length_cons, List.length_nil, Nat.zero_add, Nat.reduceAdd] <;> rfl))) | with_reducible (first | refine aw_reg_d P_mixed ?_ | refine ar_done ?_ | refine aw_seq ?_ | refine aw_reg ?_ | refine aw_block ?_ | refine aw_skip ?_ | refine aw_exit ?_ | refine aw_ret ?_ | refine at_n ?_ | refine at_e ?_ | refine at_r ?_ | refine ab_n ?_ | refine ab_r ?_ | refine ab_e ?_ | refine ab_ne rfl ?_ | refine an_e ?_ | refine an_r ?_ | refine am_e ?_ | refine am_r ?_) | ((with_reducible apply aw_cond_f); (focus (simp only [go_sem, Nat.reduceLT, Nat.reduceAdd, Nat.reduceLeDiff, Nat.reduceMul, Nat.reduceEqDiff, Nat.reduceBEq, reduceIte, encn_len, encw_len] <;> rfl))) | ((with_reducible apply aw_cond_t); (focus (simp only [go_sem, Nat.reduceLT, Nat.reduceAdd, Nat.reduceLeDiff, Nat.reduceMul, Nat.reduceEqDiff, Nat.reduceBEq, reduceIte, encn_len, encw_len] <;> rfl))) | ((with_reducible apply aw_cond_d); (focus (simp only [go_sem, Nat.reduceLT, Nat.reduceAdd, Nat.reduceLeDiff, Nat.reduceMul, Nat.reduceEqDiff, Nat.reduceBEq, reduceIte, encn_len, encw_len] <;> rfl)); all_goals (intro hcond; try (exfalso; omega))) | ((with_reducible first | apply ae_r | apply ae_n); (focus (simp only [go_sem, Nat.reduceLT, Nat.reduceAdd, Nat.reduceLeDiff, Nat.reduceMul, Nat.reduceEqDiff, Nat.reduceBEq, reduceIte, encn_len, encw_len] <;> rfl))) | ((with_reducible apply ard_done); (focus rfl)))
  ((apply ar_call rfl ok_11); (focus (simp only [go_sem, Nat.reduceLT, Nat.reduceAdd, Nat.reduceLeDiff, Nat.reduceMul, Nat.reduceEqDiff, Nat.reduceBEq, reduceIte, encn_len, encw_len, List.map] <;> rfl)); (focus exact eqNodeS_ok l h2 hf); (focus rfl); (focus rfl))
  repeat' (first | ((with_reducible first | apply ar_w T_ok | apply ar_w0 T_ok | apply ard_w T_ok | apply ard_w0 T_ok); (focus (simp (disch := omega) only [go_sem, Nat.reduceLT, Nat.reduceAdd, Nat.reduceLeDiff, Nat.reduceMul, Nat.reduceEqDiff, Nat.reduceBEq, reduceIte, encn_len, encw_len] <;> rfl)); (focus (first | rfl | (simp [okIdsB, Nat.ble_eq]; done))); (focus rfl); (focus (first | trivial | (simp only [preOK]; omega) | exact ⟨by first | trivial | rfl | omega, by assumption, by omega⟩ | (simp [preOK, AllBytes, encn_len, encw_len]; first | done | omega))); (focus (simp only [encn_len, encw_len, Heap.puts, Heap.put_app, Heap.put_app0, Heap.put_len, Heap.put, List.length_append, List.length_cons, List.length_nil, Nat.zero_add, Nat.reduceAdd] <;> rfl))) | with_reducible (first | refine aw_reg_d P_mixed ?_ | refine ar_done ?_ | refine aw_seq ?_ | refine aw_reg ?_ | refine aw_block ?_ | refine aw_skip ?_ | refine aw_exit ?_ | refine aw_ret ?_ | refine at_n ?_ | refine at_e ?_ | refine at_r ?_ | refine ab_n ?_ | refine ab_r ?_ | refine ab_e ?_ | refine ab_ne rfl ?_ | refine an_e ?_ | refine an_r ?_ | refine am_e ?_ | refine am_r ?_) | ((with_reducible apply aw_cond_f); (focus (simp only [go_sem, Nat.reduceLT, Nat.reduceAdd, Nat.reduceLeDiff, Nat.reduceMul, Nat.reduceEqDiff, Nat.reduceBEq, reduceIte, encn_len, encw_len] <;> rfl))) | ((with_reducible apply aw_cond_t); (focus (simp only [go_sem, Nat.reduceLT, Nat.reduceAdd, Nat.reduceLeDiff, Nat.reduceMul, Nat.reduceEqDiff, Nat.reduceBEq, reduceIte, encn_len, encw_len] <;> rfl))) | ((with_reducible apply aw_cond_d); (focus (simp only [go_sem, Nat.reduceLT, Nat.reduceAdd, Nat.reduceLeDiff, Nat.reduceMul, Nat.reduceEqDiff, Nat.reduceBEq, reduceIte, encn_len, encw_len] <;> rfl)); all_goals (intro hcond; try (exfalso; omega))) | ((with_reducible first | apply ae_r | apply ae_n); (focus (simp only [go_sem, Nat.reduceLT, Nat.reduceAdd, Nat.reduceLeDiff, Nat.reduceMul, Nat.reduceEqDiff, Nat.reduceBEq, reduceIte, encn_len, encw_len] <;> rfl))) | ((with_reducible apply ard_done); (focus rfl)))
  ((apply ar_call rfl ok_31); (focus (simp only [go_sem, Nat.reduceLT, Nat.reduceAdd, Nat.reduceLeDiff, Nat.reduceMul, Nat.reduceEqDiff, Nat.reduceBEq, reduceIte, encn_len, encw_len, List.map] <;> rfl)); (focus exact eqWatchS_ok w h3); (focus rfl); (focus rfl))
  repeat' (first | ((with_reducible first | apply ar_w T_ok | apply ar_w0 T_ok | apply ard_w T_ok | apply ard_w0 T_ok); (focus (simp (disch := omega) only [go_sem, Nat.reduceLT, Nat.reduceAdd, Nat.reduceLeDiff, Nat.reduceMul, Nat.reduceEqDiff, Nat.reduceBEq, reduceIte, encn_len, encw_len] <;> rfl)); (focus (first | rfl | (simp [okIdsB, Nat.ble_eq]; done))); (focus rfl); (focus (first | trivial | (simp only [preOK]; omega) | exact ⟨by first | trivial | rfl | omega, by assumption, by omega⟩ | (simp [preOK, AllBytes, encn_len, encw_len]; first | done | omega))); (focus (simp only [encn_len, encw_len, Heap.puts, Heap.put_app, Heap.put_app0, Heap.put_len, Heap.put, List.length_append, List.length_cons, List.length_nil, Nat.zero_add, Nat.reduceAdd] <;> rfl))) | with_reducible (first | refine aw_reg_d P_mixed ?_ | refine ar_done ?_ | refine aw_seq ?_ | refine aw_reg ?_ | refine aw_block ?_ | refine aw_skip ?_ | refine aw_exit ?_ | refine aw_ret ?_ | refine at_n ?_ | refine at_e ?_ | refine at_r ?_ | refine ab_n ?_ | refine ab_r ?_ | refine ab_e ?_ | refine ab_ne rfl ?_ | refine an_e ?_ | refine an_r ?_ | refine am_e ?_ | refine am_r ?_) | ((with_reducible apply aw_cond_f); (focus (simp only [go_sem, Nat.reduceLT, Nat.reduceAdd, Nat.reduceLeDiff, Nat.reduceMul, Nat.reduceEqDiff, Nat.reduceBEq, reduceIte, encn_len, encw_len] <;> rfl))) | ((with_reducible apply aw_cond_t); (focus (simp only [go_sem, Nat.reduceLT, Nat.reduceAdd, Nat.reduceLeDiff, Nat.reduceMul, Nat.reduceEqDiff, Nat.reduceBEq, reduceIte, encn_len, encw_len] <;> rfl))) | ((with_reducible apply aw_cond_d); (focus (simp only [go_sem, Nat.reduceLT, Nat.reduceAdd, Nat.reduceLeDiff, Nat.reduceMul, Nat.reduceEqDiff, Nat.reduceBEq, reduceIte, encn_len, encw_len] <;> rfl)); all_goals (intro hcond; try (exfalso; omega))) | ((with_reducible first | apply ae_r | apply ae_n); (focus (simp only [go_sem, Nat.reduceLT, Nat.reduceAdd, Nat.reduceLeDiff, Nat.reduceMul, Nat.reduceEqDiff, Nat.reduceBEq, reduceIte, encn_len, encw_len] <;> rfl))) | ((with_reducible apply ard_done); (focus rfl)))
  rfl
end Go.Av
