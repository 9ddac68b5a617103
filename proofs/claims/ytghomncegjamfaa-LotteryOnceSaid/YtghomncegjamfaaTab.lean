/- The types and functions of this translation, as instances for the calculus. Written by program. -/
import Derived.Test.YtghomncegjamfaaChecked
import Derived.Test.YtghomncegjamfaaJf
namespace Go.Proofs.Ytghomncegjamfaa
set_option maxRecDepth 100000
instance : Mixed Try.prog := ⟨by kernel_rfl⟩
instance : TInt Try.prog 3 .i64 := ⟨Try.underlying3⟩
instance : TInfo Try.prog 3 1 8 ([.int .i64 0]) := ⟨⟨(Try.prog.info? 3).getD default, .int .i64 0, by kernel_rfl, by kernel_rfl, by kernel_rfl, by kernel_rfl, by kernel_rfl, by kernel_rfl, by decide⟩⟩
instance : TCell Try.prog 3 := ⟨fun w => ⟨by kernel_rfl, by kernel_rfl⟩⟩
instance : TBool Try.prog 4 := ⟨Try.underlying4⟩
instance : TInfo Try.prog 4 1 1 ([.bool false]) := ⟨⟨(Try.prog.info? 4).getD default, .bool false, by kernel_rfl, by kernel_rfl, by kernel_rfl, by kernel_rfl, by kernel_rfl, by kernel_rfl, by decide⟩⟩
instance : TCell Try.prog 4 := ⟨fun w => ⟨by kernel_rfl, by kernel_rfl⟩⟩
instance : TInt Try.prog 5 .u8 := ⟨Try.underlying5⟩
instance : TInfo Try.prog 5 1 1 ([.int .u8 0]) := ⟨⟨(Try.prog.info? 5).getD default, .int .u8 0, by kernel_rfl, by kernel_rfl, by kernel_rfl, by kernel_rfl, by kernel_rfl, by kernel_rfl, by decide⟩⟩
instance : TCell Try.prog 5 := ⟨fun w => ⟨by kernel_rfl, by kernel_rfl⟩⟩
instance : TStr Try.prog 9 := ⟨Try.underlying9⟩
instance : TInfo Try.prog 9 1 16 ([.string ⟨#[]⟩]) := ⟨⟨(Try.prog.info? 9).getD default, .string ⟨#[]⟩, by kernel_rfl, by kernel_rfl, by kernel_rfl, by kernel_rfl, by kernel_rfl, by kernel_rfl, by decide⟩⟩
instance : TCell Try.prog 9 := ⟨fun w => ⟨by kernel_rfl, by kernel_rfl⟩⟩
instance : TInt Try.prog 22 .u64 := ⟨Try.underlying22⟩
instance : TInfo Try.prog 22 1 8 ([.int .u64 0]) := ⟨⟨(Try.prog.info? 22).getD default, .int .u64 0, by kernel_rfl, by kernel_rfl, by kernel_rfl, by kernel_rfl, by kernel_rfl, by kernel_rfl, by decide⟩⟩
instance : TCell Try.prog 22 := ⟨fun w => ⟨by kernel_rfl, by kernel_rfl⟩⟩
instance : TArr Try.prog 23 4 22 := ⟨Try.underlying23⟩
instance : TInfo Try.prog 23 4 32 ([.int .u64 0, .int .u64 0, .int .u64 0, .int .u64 0]) := ⟨⟨(Try.prog.info? 23).getD default, .agg ([.int .u64 0, .int .u64 0, .int .u64 0, .int .u64 0]).toArray, by kernel_rfl, by kernel_rfl, by kernel_rfl, by kernel_rfl, by kernel_rfl, by kernel_rfl, by decide⟩⟩
instance : TAgg Try.prog 23 4 := ⟨fun w => ⟨by kernel_rfl, by kernel_rfl⟩⟩
instance : TPtr Try.prog 24 69 := ⟨Try.underlying24⟩
instance : TInfo Try.prog 24 1 8 ([.pointer none]) := ⟨⟨(Try.prog.info? 24).getD default, .pointer none, by kernel_rfl, by kernel_rfl, by kernel_rfl, by kernel_rfl, by kernel_rfl, by kernel_rfl, by decide⟩⟩
instance : TCell Try.prog 24 := ⟨fun w => ⟨by kernel_rfl, by kernel_rfl⟩⟩
instance : TInt Try.prog 25 .i64 := ⟨Try.underlying25⟩
instance : TInfo Try.prog 25 1 8 ([.int .i64 0]) := ⟨⟨(Try.prog.info? 25).getD default, .int .i64 0, by kernel_rfl, by kernel_rfl, by kernel_rfl, by kernel_rfl, by kernel_rfl, by kernel_rfl, by decide⟩⟩
instance : TCell Try.prog 25 := ⟨fun w => ⟨by kernel_rfl, by kernel_rfl⟩⟩
instance : TPtr Try.prog 28 74 := ⟨Try.underlying28⟩
instance : TInfo Try.prog 28 1 8 ([.pointer none]) := ⟨⟨(Try.prog.info? 28).getD default, .pointer none, by kernel_rfl, by kernel_rfl, by kernel_rfl, by kernel_rfl, by kernel_rfl, by kernel_rfl, by decide⟩⟩
instance : TCell Try.prog 28 := ⟨fun w => ⟨by kernel_rfl, by kernel_rfl⟩⟩
instance : TInfo Try.prog 33 9 96 ([.string ⟨#[]⟩, .int .u64 0, .int .u64 0, .int .u64 0, .int .u64 0, .string ⟨#[]⟩, .string ⟨#[]⟩, .int .u64 0, .bool false]) := ⟨⟨(Try.prog.info? 33).getD default, .agg ([.string ⟨#[]⟩, .int .u64 0, .int .u64 0, .int .u64 0, .int .u64 0, .string ⟨#[]⟩, .string ⟨#[]⟩, .int .u64 0, .bool false]).toArray, by kernel_rfl, by kernel_rfl, by kernel_rfl, by kernel_rfl, by kernel_rfl, by kernel_rfl, by decide⟩⟩
instance : TAgg Try.prog 33 9 := ⟨fun w => ⟨by kernel_rfl, by kernel_rfl⟩⟩
instance : TField Try.prog 33 0 0 := ⟨fun w => ⟨(fsOf (Try.prog.underlying 33)), (fsOf (Try.prog.underlying 33)).getD 0 default, by kernel_rfl, by kernel_rfl, by kernel_rfl, by kernel_rfl, fun a => by kernel_rfl⟩⟩
instance : TField Try.prog 33 1 1 := ⟨fun w => ⟨(fsOf (Try.prog.underlying 33)), (fsOf (Try.prog.underlying 33)).getD 1 default, by kernel_rfl, by kernel_rfl, by kernel_rfl, by kernel_rfl, fun a => by kernel_rfl⟩⟩
instance : TField Try.prog 33 2 2 := ⟨fun w => ⟨(fsOf (Try.prog.underlying 33)), (fsOf (Try.prog.underlying 33)).getD 2 default, by kernel_rfl, by kernel_rfl, by kernel_rfl, by kernel_rfl, fun a => by kernel_rfl⟩⟩
instance : TField Try.prog 33 3 3 := ⟨fun w => ⟨(fsOf (Try.prog.underlying 33)), (fsOf (Try.prog.underlying 33)).getD 3 default, by kernel_rfl, by kernel_rfl, by kernel_rfl, by kernel_rfl, fun a => by kernel_rfl⟩⟩
instance : TField Try.prog 33 4 4 := ⟨fun w => ⟨(fsOf (Try.prog.underlying 33)), (fsOf (Try.prog.underlying 33)).getD 4 default, by kernel_rfl, by kernel_rfl, by kernel_rfl, by kernel_rfl, fun a => by kernel_rfl⟩⟩
instance : TField Try.prog 33 5 5 := ⟨fun w => ⟨(fsOf (Try.prog.underlying 33)), (fsOf (Try.prog.underlying 33)).getD 5 default, by kernel_rfl, by kernel_rfl, by kernel_rfl, by kernel_rfl, fun a => by kernel_rfl⟩⟩
instance : TField Try.prog 33 6 6 := ⟨fun w => ⟨(fsOf (Try.prog.underlying 33)), (fsOf (Try.prog.underlying 33)).getD 6 default, by kernel_rfl, by kernel_rfl, by kernel_rfl, by kernel_rfl, fun a => by kernel_rfl⟩⟩
instance : TField Try.prog 33 7 7 := ⟨fun w => ⟨(fsOf (Try.prog.underlying 33)), (fsOf (Try.prog.underlying 33)).getD 7 default, by kernel_rfl, by kernel_rfl, by kernel_rfl, by kernel_rfl, fun a => by kernel_rfl⟩⟩
instance : TField Try.prog 33 8 8 := ⟨fun w => ⟨(fsOf (Try.prog.underlying 33)), (fsOf (Try.prog.underlying 33)).getD 8 default, by kernel_rfl, by kernel_rfl, by kernel_rfl, by kernel_rfl, fun a => by kernel_rfl⟩⟩
instance : TPlaces Try.prog 33 [(0, 1), (1, 1), (2, 1), (3, 1), (4, 1), (5, 1), (6, 1), (7, 1), (8, 1)] ([.string ⟨#[]⟩, .int .u64 0, .int .u64 0, .int .u64 0, .int .u64 0, .string ⟨#[]⟩, .string ⟨#[]⟩, .int .u64 0, .bool false]) := ⟨fun w => ⟨by kernel_rfl, (fsOf (Try.prog.underlying 33)), by kernel_rfl, by kernel_rfl⟩⟩
instance : TInfo Try.prog 37 8 88 ([.string ⟨#[]⟩, .int .u64 0, .int .u64 0, .int .u64 0, .int .u64 0, .string ⟨#[]⟩, .int .u64 0, .string ⟨#[]⟩]) := ⟨⟨(Try.prog.info? 37).getD default, .agg ([.string ⟨#[]⟩, .int .u64 0, .int .u64 0, .int .u64 0, .int .u64 0, .string ⟨#[]⟩, .int .u64 0, .string ⟨#[]⟩]).toArray, by kernel_rfl, by kernel_rfl, by kernel_rfl, by kernel_rfl, by kernel_rfl, by kernel_rfl, by decide⟩⟩
instance : TAgg Try.prog 37 8 := ⟨fun w => ⟨by kernel_rfl, by kernel_rfl⟩⟩
instance : TField Try.prog 37 0 0 := ⟨fun w => ⟨(fsOf (Try.prog.underlying 37)), (fsOf (Try.prog.underlying 37)).getD 0 default, by kernel_rfl, by kernel_rfl, by kernel_rfl, by kernel_rfl, fun a => by kernel_rfl⟩⟩
instance : TField Try.prog 37 1 1 := ⟨fun w => ⟨(fsOf (Try.prog.underlying 37)), (fsOf (Try.prog.underlying 37)).getD 1 default, by kernel_rfl, by kernel_rfl, by kernel_rfl, by kernel_rfl, fun a => by kernel_rfl⟩⟩
instance : TField Try.prog 37 2 2 := ⟨fun w => ⟨(fsOf (Try.prog.underlying 37)), (fsOf (Try.prog.underlying 37)).getD 2 default, by kernel_rfl, by kernel_rfl, by kernel_rfl, by kernel_rfl, fun a => by kernel_rfl⟩⟩
instance : TField Try.prog 37 3 3 := ⟨fun w => ⟨(fsOf (Try.prog.underlying 37)), (fsOf (Try.prog.underlying 37)).getD 3 default, by kernel_rfl, by kernel_rfl, by kernel_rfl, by kernel_rfl, fun a => by kernel_rfl⟩⟩
instance : TField Try.prog 37 4 4 := ⟨fun w => ⟨(fsOf (Try.prog.underlying 37)), (fsOf (Try.prog.underlying 37)).getD 4 default, by kernel_rfl, by kernel_rfl, by kernel_rfl, by kernel_rfl, fun a => by kernel_rfl⟩⟩
instance : TField Try.prog 37 5 5 := ⟨fun w => ⟨(fsOf (Try.prog.underlying 37)), (fsOf (Try.prog.underlying 37)).getD 5 default, by kernel_rfl, by kernel_rfl, by kernel_rfl, by kernel_rfl, fun a => by kernel_rfl⟩⟩
instance : TField Try.prog 37 6 6 := ⟨fun w => ⟨(fsOf (Try.prog.underlying 37)), (fsOf (Try.prog.underlying 37)).getD 6 default, by kernel_rfl, by kernel_rfl, by kernel_rfl, by kernel_rfl, fun a => by kernel_rfl⟩⟩
instance : TField Try.prog 37 7 7 := ⟨fun w => ⟨(fsOf (Try.prog.underlying 37)), (fsOf (Try.prog.underlying 37)).getD 7 default, by kernel_rfl, by kernel_rfl, by kernel_rfl, by kernel_rfl, fun a => by kernel_rfl⟩⟩
instance : TPlaces Try.prog 37 [(0, 1), (1, 1), (2, 1), (3, 1), (4, 1), (5, 1), (6, 1), (7, 1)] ([.string ⟨#[]⟩, .int .u64 0, .int .u64 0, .int .u64 0, .int .u64 0, .string ⟨#[]⟩, .int .u64 0, .string ⟨#[]⟩]) := ⟨fun w => ⟨by kernel_rfl, (fsOf (Try.prog.underlying 37)), by kernel_rfl, by kernel_rfl⟩⟩
instance : TInfo Try.prog 43 10 112 ([.string ⟨#[]⟩, .int .u64 0, .int .u64 0, .int .u64 0, .int .u64 0, .string ⟨#[]⟩, .int .u64 0, .string ⟨#[]⟩, .string ⟨#[]⟩, .int .u64 0]) := ⟨⟨(Try.prog.info? 43).getD default, .agg ([.string ⟨#[]⟩, .int .u64 0, .int .u64 0, .int .u64 0, .int .u64 0, .string ⟨#[]⟩, .int .u64 0, .string ⟨#[]⟩, .string ⟨#[]⟩, .int .u64 0]).toArray, by kernel_rfl, by kernel_rfl, by kernel_rfl, by kernel_rfl, by kernel_rfl, by kernel_rfl, by decide⟩⟩
instance : TAgg Try.prog 43 10 := ⟨fun w => ⟨by kernel_rfl, by kernel_rfl⟩⟩
instance : TFieldAgg Try.prog 43 0 0 8 := ⟨fun w => ⟨(fsOf (Try.prog.underlying 43)), (fsOf (Try.prog.underlying 43)).getD 0 default, by kernel_rfl, by kernel_rfl, by kernel_rfl, by kernel_rfl, by kernel_rfl, fun a => by kernel_rfl⟩⟩
instance : TField Try.prog 43 1 8 := ⟨fun w => ⟨(fsOf (Try.prog.underlying 43)), (fsOf (Try.prog.underlying 43)).getD 1 default, by kernel_rfl, by kernel_rfl, by kernel_rfl, by kernel_rfl, fun a => by kernel_rfl⟩⟩
instance : TField Try.prog 43 2 9 := ⟨fun w => ⟨(fsOf (Try.prog.underlying 43)), (fsOf (Try.prog.underlying 43)).getD 2 default, by kernel_rfl, by kernel_rfl, by kernel_rfl, by kernel_rfl, fun a => by kernel_rfl⟩⟩
instance : TPlaces Try.prog 43 [(0, 8), (8, 1), (9, 1)] ([.string ⟨#[]⟩, .int .u64 0, .int .u64 0, .int .u64 0, .int .u64 0, .string ⟨#[]⟩, .int .u64 0, .string ⟨#[]⟩, .string ⟨#[]⟩, .int .u64 0]) := ⟨fun w => ⟨by kernel_rfl, (fsOf (Try.prog.underlying 43)), by kernel_rfl, by kernel_rfl⟩⟩
instance : TSlice Try.prog 48 22 := ⟨Try.underlying48⟩
instance : TInfo Try.prog 48 1 24 ([.slice none 0 0]) := ⟨⟨(Try.prog.info? 48).getD default, .slice none 0 0, by kernel_rfl, by kernel_rfl, by kernel_rfl, by kernel_rfl, by kernel_rfl, by kernel_rfl, by decide⟩⟩
instance : TCell Try.prog 48 := ⟨fun w => ⟨by kernel_rfl, by kernel_rfl⟩⟩
instance : TSlice Try.prog 50 33 := ⟨Try.underlying50⟩
instance : TInfo Try.prog 50 1 24 ([.slice none 0 0]) := ⟨⟨(Try.prog.info? 50).getD default, .slice none 0 0, by kernel_rfl, by kernel_rfl, by kernel_rfl, by kernel_rfl, by kernel_rfl, by kernel_rfl, by decide⟩⟩
instance : TCell Try.prog 50 := ⟨fun w => ⟨by kernel_rfl, by kernel_rfl⟩⟩
instance : TSlice Try.prog 58 98 := ⟨Try.underlying58⟩
instance : TInfo Try.prog 58 1 24 ([.slice none 0 0]) := ⟨⟨(Try.prog.info? 58).getD default, .slice none 0 0, by kernel_rfl, by kernel_rfl, by kernel_rfl, by kernel_rfl, by kernel_rfl, by kernel_rfl, by decide⟩⟩
instance : TCell Try.prog 58 := ⟨fun w => ⟨by kernel_rfl, by kernel_rfl⟩⟩
instance : TArr Try.prog 61 2 22 := ⟨Try.underlying61⟩
instance : TInfo Try.prog 61 2 16 ([.int .u64 0, .int .u64 0]) := ⟨⟨(Try.prog.info? 61).getD default, .agg ([.int .u64 0, .int .u64 0]).toArray, by kernel_rfl, by kernel_rfl, by kernel_rfl, by kernel_rfl, by kernel_rfl, by kernel_rfl, by decide⟩⟩
instance : TAgg Try.prog 61 2 := ⟨fun w => ⟨by kernel_rfl, by kernel_rfl⟩⟩
instance : TPtr Try.prog 64 66 := ⟨Try.underlying64⟩
instance : TInfo Try.prog 64 1 8 ([.pointer none]) := ⟨⟨(Try.prog.info? 64).getD default, .pointer none, by kernel_rfl, by kernel_rfl, by kernel_rfl, by kernel_rfl, by kernel_rfl, by kernel_rfl, by decide⟩⟩
instance : TCell Try.prog 64 := ⟨fun w => ⟨by kernel_rfl, by kernel_rfl⟩⟩
instance : TInfo Try.prog 66 2 16 ([.int .i64 0, .int .i64 0]) := ⟨⟨(Try.prog.info? 66).getD default, .agg ([.int .i64 0, .int .i64 0]).toArray, by kernel_rfl, by kernel_rfl, by kernel_rfl, by kernel_rfl, by kernel_rfl, by kernel_rfl, by decide⟩⟩
instance : TAgg Try.prog 66 2 := ⟨fun w => ⟨by kernel_rfl, by kernel_rfl⟩⟩
instance : TField Try.prog 66 0 0 := ⟨fun w => ⟨(fsOf (Try.prog.underlying 66)), (fsOf (Try.prog.underlying 66)).getD 0 default, by kernel_rfl, by kernel_rfl, by kernel_rfl, by kernel_rfl, fun a => by kernel_rfl⟩⟩
instance : TField Try.prog 66 1 1 := ⟨fun w => ⟨(fsOf (Try.prog.underlying 66)), (fsOf (Try.prog.underlying 66)).getD 1 default, by kernel_rfl, by kernel_rfl, by kernel_rfl, by kernel_rfl, fun a => by kernel_rfl⟩⟩
instance : TPlaces Try.prog 66 [(0, 1), (1, 1)] ([.int .i64 0, .int .i64 0]) := ⟨fun w => ⟨by kernel_rfl, (fsOf (Try.prog.underlying 66)), by kernel_rfl, by kernel_rfl⟩⟩
instance : TSlice Try.prog 67 9 := ⟨Try.underlying67⟩
instance : TInfo Try.prog 67 1 24 ([.slice none 0 0]) := ⟨⟨(Try.prog.info? 67).getD default, .slice none 0 0, by kernel_rfl, by kernel_rfl, by kernel_rfl, by kernel_rfl, by kernel_rfl, by kernel_rfl, by decide⟩⟩
instance : TCell Try.prog 67 := ⟨fun w => ⟨by kernel_rfl, by kernel_rfl⟩⟩
instance : TInfo Try.prog 69 4 64 ([.pointer none, .string ⟨#[]⟩, .slice none 0 0, .string ⟨#[]⟩]) := ⟨⟨(Try.prog.info? 69).getD default, .agg ([.pointer none, .string ⟨#[]⟩, .slice none 0 0, .string ⟨#[]⟩]).toArray, by kernel_rfl, by kernel_rfl, by kernel_rfl, by kernel_rfl, by kernel_rfl, by kernel_rfl, by decide⟩⟩
instance : TAgg Try.prog 69 4 := ⟨fun w => ⟨by kernel_rfl, by kernel_rfl⟩⟩
instance : TField Try.prog 69 0 0 := ⟨fun w => ⟨(fsOf (Try.prog.underlying 69)), (fsOf (Try.prog.underlying 69)).getD 0 default, by kernel_rfl, by kernel_rfl, by kernel_rfl, by kernel_rfl, fun a => by kernel_rfl⟩⟩
instance : TField Try.prog 69 1 1 := ⟨fun w => ⟨(fsOf (Try.prog.underlying 69)), (fsOf (Try.prog.underlying 69)).getD 1 default, by kernel_rfl, by kernel_rfl, by kernel_rfl, by kernel_rfl, fun a => by kernel_rfl⟩⟩
instance : TField Try.prog 69 2 2 := ⟨fun w => ⟨(fsOf (Try.prog.underlying 69)), (fsOf (Try.prog.underlying 69)).getD 2 default, by kernel_rfl, by kernel_rfl, by kernel_rfl, by kernel_rfl, fun a => by kernel_rfl⟩⟩
instance : TField Try.prog 69 3 3 := ⟨fun w => ⟨(fsOf (Try.prog.underlying 69)), (fsOf (Try.prog.underlying 69)).getD 3 default, by kernel_rfl, by kernel_rfl, by kernel_rfl, by kernel_rfl, fun a => by kernel_rfl⟩⟩
instance : TPlaces Try.prog 69 [(0, 1), (1, 1), (2, 1), (3, 1)] ([.pointer none, .string ⟨#[]⟩, .slice none 0 0, .string ⟨#[]⟩]) := ⟨fun w => ⟨by kernel_rfl, (fsOf (Try.prog.underlying 69)), by kernel_rfl, by kernel_rfl⟩⟩
instance : TInfo Try.prog 74 4 64 ([.string ⟨#[]⟩, .string ⟨#[]⟩, .int .u64 0, .slice none 0 0]) := ⟨⟨(Try.prog.info? 74).getD default, .agg ([.string ⟨#[]⟩, .string ⟨#[]⟩, .int .u64 0, .slice none 0 0]).toArray, by kernel_rfl, by kernel_rfl, by kernel_rfl, by kernel_rfl, by kernel_rfl, by kernel_rfl, by decide⟩⟩
instance : TAgg Try.prog 74 4 := ⟨fun w => ⟨by kernel_rfl, by kernel_rfl⟩⟩
instance : TField Try.prog 74 0 0 := ⟨fun w => ⟨(fsOf (Try.prog.underlying 74)), (fsOf (Try.prog.underlying 74)).getD 0 default, by kernel_rfl, by kernel_rfl, by kernel_rfl, by kernel_rfl, fun a => by kernel_rfl⟩⟩
instance : TField Try.prog 74 1 1 := ⟨fun w => ⟨(fsOf (Try.prog.underlying 74)), (fsOf (Try.prog.underlying 74)).getD 1 default, by kernel_rfl, by kernel_rfl, by kernel_rfl, by kernel_rfl, fun a => by kernel_rfl⟩⟩
instance : TField Try.prog 74 2 2 := ⟨fun w => ⟨(fsOf (Try.prog.underlying 74)), (fsOf (Try.prog.underlying 74)).getD 2 default, by kernel_rfl, by kernel_rfl, by kernel_rfl, by kernel_rfl, fun a => by kernel_rfl⟩⟩
instance : TField Try.prog 74 3 3 := ⟨fun w => ⟨(fsOf (Try.prog.underlying 74)), (fsOf (Try.prog.underlying 74)).getD 3 default, by kernel_rfl, by kernel_rfl, by kernel_rfl, by kernel_rfl, fun a => by kernel_rfl⟩⟩
instance : TPlaces Try.prog 74 [(0, 1), (1, 1), (2, 1), (3, 1)] ([.string ⟨#[]⟩, .string ⟨#[]⟩, .int .u64 0, .slice none 0 0]) := ⟨fun w => ⟨by kernel_rfl, (fsOf (Try.prog.underlying 74)), by kernel_rfl, by kernel_rfl⟩⟩
instance : TInfo Try.prog 85 2 24 ([.string ⟨#[]⟩, .int .i64 0]) := ⟨⟨(Try.prog.info? 85).getD default, .agg ([.string ⟨#[]⟩, .int .i64 0]).toArray, by kernel_rfl, by kernel_rfl, by kernel_rfl, by kernel_rfl, by kernel_rfl, by kernel_rfl, by decide⟩⟩
instance : TAgg Try.prog 85 2 := ⟨fun w => ⟨by kernel_rfl, by kernel_rfl⟩⟩
instance : TField Try.prog 85 0 0 := ⟨fun w => ⟨(fsOf (Try.prog.underlying 85)), (fsOf (Try.prog.underlying 85)).getD 0 default, by kernel_rfl, by kernel_rfl, by kernel_rfl, by kernel_rfl, fun a => by kernel_rfl⟩⟩
instance : TField Try.prog 85 1 1 := ⟨fun w => ⟨(fsOf (Try.prog.underlying 85)), (fsOf (Try.prog.underlying 85)).getD 1 default, by kernel_rfl, by kernel_rfl, by kernel_rfl, by kernel_rfl, fun a => by kernel_rfl⟩⟩
instance : TPlaces Try.prog 85 [(0, 1), (1, 1)] ([.string ⟨#[]⟩, .int .i64 0]) := ⟨fun w => ⟨by kernel_rfl, (fsOf (Try.prog.underlying 85)), by kernel_rfl, by kernel_rfl⟩⟩
instance : TPtr Try.prog 89 85 := ⟨Try.underlying89⟩
instance : TInfo Try.prog 89 1 8 ([.pointer none]) := ⟨⟨(Try.prog.info? 89).getD default, .pointer none, by kernel_rfl, by kernel_rfl, by kernel_rfl, by kernel_rfl, by kernel_rfl, by kernel_rfl, by decide⟩⟩
instance : TCell Try.prog 89 := ⟨fun w => ⟨by kernel_rfl, by kernel_rfl⟩⟩
instance : TInfo Try.prog 97 1 8 ([.nilFunc]) := ⟨⟨(Try.prog.info? 97).getD default, .nilFunc, by kernel_rfl, by kernel_rfl, by kernel_rfl, by kernel_rfl, by kernel_rfl, by kernel_rfl, by decide⟩⟩
instance : TCell Try.prog 97 := ⟨fun w => ⟨by kernel_rfl, by kernel_rfl⟩⟩
instance : TInfo Try.prog 98 9 96 ([.string ⟨#[]⟩, .int .u64 0, .int .u64 0, .int .u64 0, .int .u64 0, .string ⟨#[]⟩, .string ⟨#[]⟩, .int .u64 0, .bool false]) := ⟨⟨(Try.prog.info? 98).getD default, .agg ([.string ⟨#[]⟩, .int .u64 0, .int .u64 0, .int .u64 0, .int .u64 0, .string ⟨#[]⟩, .string ⟨#[]⟩, .int .u64 0, .bool false]).toArray, by kernel_rfl, by kernel_rfl, by kernel_rfl, by kernel_rfl, by kernel_rfl, by kernel_rfl, by decide⟩⟩
instance : TAgg Try.prog 98 9 := ⟨fun w => ⟨by kernel_rfl, by kernel_rfl⟩⟩
instance : TField Try.prog 98 0 0 := ⟨fun w => ⟨(fsOf (Try.prog.underlying 98)), (fsOf (Try.prog.underlying 98)).getD 0 default, by kernel_rfl, by kernel_rfl, by kernel_rfl, by kernel_rfl, fun a => by kernel_rfl⟩⟩
instance : TField Try.prog 98 1 1 := ⟨fun w => ⟨(fsOf (Try.prog.underlying 98)), (fsOf (Try.prog.underlying 98)).getD 1 default, by kernel_rfl, by kernel_rfl, by kernel_rfl, by kernel_rfl, fun a => by kernel_rfl⟩⟩
instance : TField Try.prog 98 2 2 := ⟨fun w => ⟨(fsOf (Try.prog.underlying 98)), (fsOf (Try.prog.underlying 98)).getD 2 default, by kernel_rfl, by kernel_rfl, by kernel_rfl, by kernel_rfl, fun a => by kernel_rfl⟩⟩
instance : TField Try.prog 98 3 3 := ⟨fun w => ⟨(fsOf (Try.prog.underlying 98)), (fsOf (Try.prog.underlying 98)).getD 3 default, by kernel_rfl, by kernel_rfl, by kernel_rfl, by kernel_rfl, fun a => by kernel_rfl⟩⟩
instance : TField Try.prog 98 4 4 := ⟨fun w => ⟨(fsOf (Try.prog.underlying 98)), (fsOf (Try.prog.underlying 98)).getD 4 default, by kernel_rfl, by kernel_rfl, by kernel_rfl, by kernel_rfl, fun a => by kernel_rfl⟩⟩
instance : TField Try.prog 98 5 5 := ⟨fun w => ⟨(fsOf (Try.prog.underlying 98)), (fsOf (Try.prog.underlying 98)).getD 5 default, by kernel_rfl, by kernel_rfl, by kernel_rfl, by kernel_rfl, fun a => by kernel_rfl⟩⟩
instance : TField Try.prog 98 6 6 := ⟨fun w => ⟨(fsOf (Try.prog.underlying 98)), (fsOf (Try.prog.underlying 98)).getD 6 default, by kernel_rfl, by kernel_rfl, by kernel_rfl, by kernel_rfl, fun a => by kernel_rfl⟩⟩
instance : TField Try.prog 98 7 7 := ⟨fun w => ⟨(fsOf (Try.prog.underlying 98)), (fsOf (Try.prog.underlying 98)).getD 7 default, by kernel_rfl, by kernel_rfl, by kernel_rfl, by kernel_rfl, fun a => by kernel_rfl⟩⟩
instance : TField Try.prog 98 8 8 := ⟨fun w => ⟨(fsOf (Try.prog.underlying 98)), (fsOf (Try.prog.underlying 98)).getD 8 default, by kernel_rfl, by kernel_rfl, by kernel_rfl, by kernel_rfl, fun a => by kernel_rfl⟩⟩
instance : TPlaces Try.prog 98 [(0, 1), (1, 1), (2, 1), (3, 1), (4, 1), (5, 1), (6, 1), (7, 1), (8, 1)] ([.string ⟨#[]⟩, .int .u64 0, .int .u64 0, .int .u64 0, .int .u64 0, .string ⟨#[]⟩, .string ⟨#[]⟩, .int .u64 0, .bool false]) := ⟨fun w => ⟨by kernel_rfl, (fsOf (Try.prog.underlying 98)), by kernel_rfl, by kernel_rfl⟩⟩
instance : TInfo Try.prog 100 1 8 ([.nilFunc]) := ⟨⟨(Try.prog.info? 100).getD default, .nilFunc, by kernel_rfl, by kernel_rfl, by kernel_rfl, by kernel_rfl, by kernel_rfl, by kernel_rfl, by decide⟩⟩
instance : TCell Try.prog 100 := ⟨fun w => ⟨by kernel_rfl, by kernel_rfl⟩⟩
instance : TInfo Try.prog 101 1 8 ([.nilFunc]) := ⟨⟨(Try.prog.info? 101).getD default, .nilFunc, by kernel_rfl, by kernel_rfl, by kernel_rfl, by kernel_rfl, by kernel_rfl, by kernel_rfl, by decide⟩⟩
instance : TCell Try.prog 101 := ⟨fun w => ⟨by kernel_rfl, by kernel_rfl⟩⟩
instance : TSlice Try.prog 105 67 := ⟨Try.underlying105⟩
instance : TInfo Try.prog 105 1 24 ([.slice none 0 0]) := ⟨⟨(Try.prog.info? 105).getD default, .slice none 0 0, by kernel_rfl, by kernel_rfl, by kernel_rfl, by kernel_rfl, by kernel_rfl, by kernel_rfl, by decide⟩⟩
instance : TCell Try.prog 105 := ⟨fun w => ⟨by kernel_rfl, by kernel_rfl⟩⟩
instance : TSlice Try.prog 111 5 := ⟨Try.underlying111⟩
instance : TInfo Try.prog 111 1 24 ([.slice none 0 0]) := ⟨⟨(Try.prog.info? 111).getD default, .slice none 0 0, by kernel_rfl, by kernel_rfl, by kernel_rfl, by kernel_rfl, by kernel_rfl, by kernel_rfl, by decide⟩⟩
instance : TCell Try.prog 111 := ⟨fun w => ⟨by kernel_rfl, by kernel_rfl⟩⟩
instance : TArr Try.prog 112 18 3 := ⟨Try.underlying112⟩
instance : TInfo Try.prog 112 18 144 (List.replicate 18 (.int .i64 0)) := ⟨⟨(Try.prog.info? 112).getD default, .agg (List.replicate 18 (.int .i64 0)).toArray, by kernel_rfl, by kernel_rfl, by kernel_rfl, by kernel_rfl, by kernel_rfl, by kernel_rfl, by decide⟩⟩
instance : TAgg Try.prog 112 18 := ⟨fun w => ⟨by kernel_rfl, by kernel_rfl⟩⟩
instance : TInt Try.prog 114 .u64 := ⟨Try.underlying114⟩
instance : TInfo Try.prog 114 1 8 ([.int .u64 0]) := ⟨⟨(Try.prog.info? 114).getD default, .int .u64 0, by kernel_rfl, by kernel_rfl, by kernel_rfl, by kernel_rfl, by kernel_rfl, by kernel_rfl, by decide⟩⟩
instance : TCell Try.prog 114 := ⟨fun w => ⟨by kernel_rfl, by kernel_rfl⟩⟩
instance : TInfo Try.prog 119 1 8 ([.nilFunc]) := ⟨⟨(Try.prog.info? 119).getD default, .nilFunc, by kernel_rfl, by kernel_rfl, by kernel_rfl, by kernel_rfl, by kernel_rfl, by kernel_rfl, by decide⟩⟩
instance : TCell Try.prog 119 := ⟨fun w => ⟨by kernel_rfl, by kernel_rfl⟩⟩
instance : TInfo Try.prog 121 1 8 ([.nilFunc]) := ⟨⟨(Try.prog.info? 121).getD default, .nilFunc, by kernel_rfl, by kernel_rfl, by kernel_rfl, by kernel_rfl, by kernel_rfl, by kernel_rfl, by decide⟩⟩
instance : TCell Try.prog 121 := ⟨fun w => ⟨by kernel_rfl, by kernel_rfl⟩⟩
instance : TInfo Try.prog 122 1 8 ([.nilFunc]) := ⟨⟨(Try.prog.info? 122).getD default, .nilFunc, by kernel_rfl, by kernel_rfl, by kernel_rfl, by kernel_rfl, by kernel_rfl, by kernel_rfl, by decide⟩⟩
instance : TCell Try.prog 122 := ⟨fun w => ⟨by kernel_rfl, by kernel_rfl⟩⟩
instance : TPtr Try.prog 132 139 := ⟨Try.underlying132⟩
instance : TInfo Try.prog 132 1 8 ([.pointer none]) := ⟨⟨(Try.prog.info? 132).getD default, .pointer none, by kernel_rfl, by kernel_rfl, by kernel_rfl, by kernel_rfl, by kernel_rfl, by kernel_rfl, by decide⟩⟩
instance : TCell Try.prog 132 := ⟨fun w => ⟨by kernel_rfl, by kernel_rfl⟩⟩
instance : TInt Try.prog 134 .u32 := ⟨Try.underlying134⟩
instance : TInfo Try.prog 134 1 4 ([.int .u32 0]) := ⟨⟨(Try.prog.info? 134).getD default, .int .u32 0, by kernel_rfl, by kernel_rfl, by kernel_rfl, by kernel_rfl, by kernel_rfl, by kernel_rfl, by decide⟩⟩
instance : TCell Try.prog 134 := ⟨fun w => ⟨by kernel_rfl, by kernel_rfl⟩⟩
instance : TArr Try.prog 135 8 134 := ⟨Try.underlying135⟩
instance : TInfo Try.prog 135 8 32 (List.replicate 8 (.int .u32 0)) := ⟨⟨(Try.prog.info? 135).getD default, .agg (List.replicate 8 (.int .u32 0)).toArray, by kernel_rfl, by kernel_rfl, by kernel_rfl, by kernel_rfl, by kernel_rfl, by kernel_rfl, by decide⟩⟩
instance : TAgg Try.prog 135 8 := ⟨fun w => ⟨by kernel_rfl, by kernel_rfl⟩⟩
instance : TArr Try.prog 136 8 134 := ⟨Try.underlying136⟩
instance : TInfo Try.prog 136 8 32 (List.replicate 8 (.int .u32 0)) := ⟨⟨(Try.prog.info? 136).getD default, .agg (List.replicate 8 (.int .u32 0)).toArray, by kernel_rfl, by kernel_rfl, by kernel_rfl, by kernel_rfl, by kernel_rfl, by kernel_rfl, by decide⟩⟩
instance : TAgg Try.prog 136 8 := ⟨fun w => ⟨by kernel_rfl, by kernel_rfl⟩⟩
instance : TInfo Try.prog 139 10 56 ([.int .u32 0, .int .u32 0, .int .u32 0, .int .u32 0, .int .u32 0, .int .u32 0, .int .u32 0, .int .u32 0, .string ⟨#[]⟩, .int .i64 0]) := ⟨⟨(Try.prog.info? 139).getD default, .agg ([.int .u32 0, .int .u32 0, .int .u32 0, .int .u32 0, .int .u32 0, .int .u32 0, .int .u32 0, .int .u32 0, .string ⟨#[]⟩, .int .i64 0]).toArray, by kernel_rfl, by kernel_rfl, by kernel_rfl, by kernel_rfl, by kernel_rfl, by kernel_rfl, by decide⟩⟩
instance : TAgg Try.prog 139 10 := ⟨fun w => ⟨by kernel_rfl, by kernel_rfl⟩⟩
instance : TFieldAgg Try.prog 139 0 0 8 := ⟨fun w => ⟨(fsOf (Try.prog.underlying 139)), (fsOf (Try.prog.underlying 139)).getD 0 default, by kernel_rfl, by kernel_rfl, by kernel_rfl, by kernel_rfl, by kernel_rfl, fun a => by kernel_rfl⟩⟩
instance : TField Try.prog 139 1 8 := ⟨fun w => ⟨(fsOf (Try.prog.underlying 139)), (fsOf (Try.prog.underlying 139)).getD 1 default, by kernel_rfl, by kernel_rfl, by kernel_rfl, by kernel_rfl, fun a => by kernel_rfl⟩⟩
instance : TField Try.prog 139 2 9 := ⟨fun w => ⟨(fsOf (Try.prog.underlying 139)), (fsOf (Try.prog.underlying 139)).getD 2 default, by kernel_rfl, by kernel_rfl, by kernel_rfl, by kernel_rfl, fun a => by kernel_rfl⟩⟩
instance : TPlaces Try.prog 139 [(0, 8), (8, 1), (9, 1)] ([.int .u32 0, .int .u32 0, .int .u32 0, .int .u32 0, .int .u32 0, .int .u32 0, .int .u32 0, .int .u32 0, .string ⟨#[]⟩, .int .i64 0]) := ⟨fun w => ⟨by kernel_rfl, (fsOf (Try.prog.underlying 139)), by kernel_rfl, by kernel_rfl⟩⟩
instance : TPtr Try.prog 140 136 := ⟨Try.underlying140⟩
instance : TInfo Try.prog 140 1 8 ([.pointer none]) := ⟨⟨(Try.prog.info? 140).getD default, .pointer none, by kernel_rfl, by kernel_rfl, by kernel_rfl, by kernel_rfl, by kernel_rfl, by kernel_rfl, by decide⟩⟩
instance : TCell Try.prog 140 := ⟨fun w => ⟨by kernel_rfl, by kernel_rfl⟩⟩
instance : TPtr Try.prog 141 145 := ⟨Try.underlying141⟩
instance : TInfo Try.prog 141 1 8 ([.pointer none]) := ⟨⟨(Try.prog.info? 141).getD default, .pointer none, by kernel_rfl, by kernel_rfl, by kernel_rfl, by kernel_rfl, by kernel_rfl, by kernel_rfl, by decide⟩⟩
instance : TCell Try.prog 141 := ⟨fun w => ⟨by kernel_rfl, by kernel_rfl⟩⟩
instance : TArr Try.prog 145 64 134 := ⟨Try.underlying145⟩
instance : TInfo Try.prog 145 64 256 (List.replicate 64 (.int .u32 0)) := ⟨⟨(Try.prog.info? 145).getD default, .agg (List.replicate 64 (.int .u32 0)).toArray, by kernel_rfl, by kernel_rfl, by kernel_rfl, by kernel_rfl, by kernel_rfl, by kernel_rfl, by decide⟩⟩
instance : TAgg Try.prog 145 64 := ⟨fun w => ⟨by kernel_rfl, by kernel_rfl⟩⟩
instance : HasBody Try.prog 3 := ⟨Try.call3⟩
instance : HasBody Try.prog 4 := ⟨Try.call4⟩
instance : HasBody Try.prog 5 := ⟨Try.call5⟩
instance : HasBody Try.prog 6 := ⟨Try.call6⟩
instance : HasBody Try.prog 7 := ⟨Try.call7⟩
instance : HasBody Try.prog 8 := ⟨Try.call8⟩
instance : HasBody Try.prog 9 := ⟨Try.call9⟩
instance : HasBody Try.prog 10 := ⟨Try.call10⟩
instance : HasBody Try.prog 11 := ⟨Try.call11⟩
instance : HasBody Try.prog 12 := ⟨Try.call12⟩
instance : HasBody Try.prog 13 := ⟨Try.call13⟩
instance : HasBody Try.prog 14 := ⟨Try.call14⟩
instance : HasBody Try.prog 15 := ⟨Try.call15⟩
instance : HasBody Try.prog 16 := ⟨Try.call16⟩
instance : HasBody Try.prog 17 := ⟨Try.call17⟩
instance : HasBody Try.prog 18 := ⟨Try.call18⟩
instance : HasBody Try.prog 19 := ⟨Try.call19⟩
instance : HasBody Try.prog 20 := ⟨Try.call20⟩
instance : HasBody Try.prog 21 := ⟨Try.call21⟩
instance : HasBody Try.prog 22 := ⟨Try.call22⟩
instance : HasBody Try.prog 23 := ⟨Try.call23⟩
instance : HasBody Try.prog 24 := ⟨Try.call24⟩
instance : HasBody Try.prog 25 := ⟨Try.call25⟩
instance : HasBody Try.prog 26 := ⟨Try.call26⟩
instance : HasBody Try.prog 27 := ⟨Try.call27⟩
instance : HasBody Try.prog 28 := ⟨Try.call28⟩
instance : HasBody Try.prog 29 := ⟨Try.call29⟩
instance : HasBody Try.prog 30 := ⟨Try.call30⟩
instance : HasBody Try.prog 31 := ⟨Try.call31⟩
instance : HasBody Try.prog 32 := ⟨Try.call32⟩
instance : HasBody Try.prog 33 := ⟨Try.call33⟩
instance : HasBody Try.prog 34 := ⟨Try.call34⟩
instance : HasBody Try.prog 35 := ⟨Try.call35⟩
instance : HasBody Try.prog 36 := ⟨Try.call36⟩
instance : HasBody Try.prog 37 := ⟨Try.call37⟩
instance : HasBody Try.prog 38 := ⟨Try.call38⟩
instance : HasBody Try.prog 39 := ⟨Try.call39⟩
instance : HasBody Try.prog 40 := ⟨Try.call40⟩
instance : HasBody Try.prog 41 := ⟨Try.call41⟩
instance : HasBody Try.prog 42 := ⟨Try.call42⟩
instance : HasBody Try.prog 43 := ⟨Try.call43⟩
instance : HasBody Try.prog 44 := ⟨Try.call44⟩
instance : HasBody Try.prog 45 := ⟨Try.call45⟩
instance : HasBody Try.prog 46 := ⟨Try.call46⟩
instance : HasBody Try.prog 47 := ⟨Try.call47⟩
instance : HasBody Try.prog 48 := ⟨Try.call48⟩
instance : HasBody Try.prog 49 := ⟨Try.call49⟩
instance : HasBody Try.prog 50 := ⟨Try.call50⟩
instance : HasBody Try.prog 51 := ⟨Try.call51⟩
instance : HasBody Try.prog 52 := ⟨Try.call52⟩
instance : HasBody Try.prog 53 := ⟨Try.call53⟩
instance : HasBody Try.prog 54 := ⟨Try.call54⟩
instance : HasBody Try.prog 55 := ⟨Try.call55⟩
instance : HasBody Try.prog 56 := ⟨Try.call56⟩
instance : HasBody Try.prog 57 := ⟨Try.call57⟩
instance : HasBody Try.prog 58 := ⟨Try.call58⟩
instance : HasBody Try.prog 59 := ⟨Try.call59⟩
instance : HasBody Try.prog 60 := ⟨Try.call60⟩
instance : HasBody Try.prog 61 := ⟨Try.call61⟩
instance : HasBody Try.prog 62 := ⟨Try.call62⟩
instance : HasBody Try.prog 63 := ⟨Try.call63⟩
instance : HasBody Try.prog 64 := ⟨Try.call64⟩
instance : HasBody Try.prog 65 := ⟨Try.call65⟩
instance : HasBody Try.prog 66 := ⟨Try.call66⟩
instance : HasBody Try.prog 67 := ⟨Try.call67⟩
instance : HasBody Try.prog 68 := ⟨Try.call68⟩
instance : HasBody Try.prog 69 := ⟨Try.call69⟩
instance : HasBody Try.prog 70 := ⟨Try.call70⟩
instance : HasBody Try.prog 71 := ⟨Try.call71⟩
instance : HasBody Try.prog 72 := ⟨Try.call72⟩
instance : HasBody Try.prog 73 := ⟨Try.call73⟩
instance : HasBody Try.prog 74 := ⟨Try.call74⟩
instance : HasBody Try.prog 75 := ⟨Try.call75⟩
instance : HasBody Try.prog 76 := ⟨Try.call76⟩
instance : HasBody Try.prog 77 := ⟨Try.call77⟩
instance : HasBody Try.prog 78 := ⟨Try.call78⟩
instance : HasBody Try.prog 79 := ⟨Try.call79⟩
instance : HasBody Try.prog 80 := ⟨Try.call80⟩
instance : HasBody Try.prog 81 := ⟨Try.call81⟩
instance : HasBody Try.prog 82 := ⟨Try.call82⟩
instance : HasBody Try.prog 83 := ⟨Try.call83⟩
instance : HasBody Try.prog 84 := ⟨Try.call84⟩
instance : HasBody Try.prog 85 := ⟨Try.call85⟩
instance : HasBody Try.prog 86 := ⟨Try.call86⟩
instance : HasBody Try.prog 87 := ⟨Try.call87⟩
instance : HasBody Try.prog 88 := ⟨Try.call88⟩
instance : HasBody Try.prog 89 := ⟨Try.call89⟩
instance : HasBody Try.prog 90 := ⟨Try.call90⟩
instance : HasBody Try.prog 91 := ⟨Try.call91⟩
instance : HasBody Try.prog 92 := ⟨Try.call92⟩
instance : HasBody Try.prog 93 := ⟨Try.call93⟩
end Go.Proofs.Ytghomncegjamfaa
