/- The types and functions of this translation, as instances for the calculus. Written by program. -/
import Derived.Test.YtddpoigfliaklaaChecked
import Derived.Test.YtddpoigfliaklaaJf
namespace Go.Proofs.Ytddpoigfliaklaa
set_option maxRecDepth 100000
instance : Mixed Try.prog := ⟨by kernel_rfl⟩
instance : TInt Try.prog 3 .i64 := ⟨Try.underlying3⟩
instance : TInfo Try.prog 3 1 8 ([.int .i64 0]) := ⟨⟨(Try.prog.info? 3).getD default, .int .i64 0, by kernel_rfl, by kernel_rfl, by kernel_rfl, by kernel_rfl, by kernel_rfl, by kernel_rfl, by decide⟩⟩
instance : TCell Try.prog 3 := ⟨fun w => ⟨by kernel_rfl, by kernel_rfl⟩⟩
instance : TBool Try.prog 4 := ⟨Try.underlying4⟩
instance : TInfo Try.prog 4 1 1 ([.bool false]) := ⟨⟨(Try.prog.info? 4).getD default, .bool false, by kernel_rfl, by kernel_rfl, by kernel_rfl, by kernel_rfl, by kernel_rfl, by kernel_rfl, by decide⟩⟩
instance : TCell Try.prog 4 := ⟨fun w => ⟨by kernel_rfl, by kernel_rfl⟩⟩
instance : TInt Try.prog 5 .u8 := ⟨Try.underlying5⟩
instance : TInfo Try.prog 5 1 1 ([.int .u8 0]) := ⟨⟨(Try.prog.info? 5).getD default, .int .u8 0, by kernel_rfl, by kernel_rfl, by kernel_rfl, by kernel_rfl, by kernel_rfl, by kernel_rfl, by decide⟩⟩
instance : TCell Try.prog 5 := ⟨fun w => ⟨by kernel_rfl, by kernel_rfl⟩⟩
instance : TStr Try.prog 9 := ⟨Try.underlying9⟩
instance : TInfo Try.prog 9 1 16 ([.string ⟨#[]⟩]) := ⟨⟨(Try.prog.info? 9).getD default, .string ⟨#[]⟩, by kernel_rfl, by kernel_rfl, by kernel_rfl, by kernel_rfl, by kernel_rfl, by kernel_rfl, by decide⟩⟩
instance : TCell Try.prog 9 := ⟨fun w => ⟨by kernel_rfl, by kernel_rfl⟩⟩
instance : TInt Try.prog 22 .u32 := ⟨Try.underlying22⟩
instance : TInfo Try.prog 22 1 4 ([.int .u32 0]) := ⟨⟨(Try.prog.info? 22).getD default, .int .u32 0, by kernel_rfl, by kernel_rfl, by kernel_rfl, by kernel_rfl, by kernel_rfl, by kernel_rfl, by decide⟩⟩
instance : TCell Try.prog 22 := ⟨fun w => ⟨by kernel_rfl, by kernel_rfl⟩⟩
instance : TInt Try.prog 23 .u64 := ⟨Try.underlying23⟩
instance : TInfo Try.prog 23 1 8 ([.int .u64 0]) := ⟨⟨(Try.prog.info? 23).getD default, .int .u64 0, by kernel_rfl, by kernel_rfl, by kernel_rfl, by kernel_rfl, by kernel_rfl, by kernel_rfl, by decide⟩⟩
instance : TCell Try.prog 23 := ⟨fun w => ⟨by kernel_rfl, by kernel_rfl⟩⟩
instance : TArr Try.prog 24 4 23 := ⟨Try.underlying24⟩
instance : TInfo Try.prog 24 4 32 ([.int .u64 0, .int .u64 0, .int .u64 0, .int .u64 0]) := ⟨⟨(Try.prog.info? 24).getD default, .agg ([.int .u64 0, .int .u64 0, .int .u64 0, .int .u64 0]).toArray, by kernel_rfl, by kernel_rfl, by kernel_rfl, by kernel_rfl, by kernel_rfl, by kernel_rfl, by decide⟩⟩
instance : TAgg Try.prog 24 4 := ⟨fun w => ⟨by kernel_rfl, by kernel_rfl⟩⟩
instance : TPtr Try.prog 25 61 := ⟨Try.underlying25⟩
instance : TInfo Try.prog 25 1 8 ([.pointer none]) := ⟨⟨(Try.prog.info? 25).getD default, .pointer none, by kernel_rfl, by kernel_rfl, by kernel_rfl, by kernel_rfl, by kernel_rfl, by kernel_rfl, by decide⟩⟩
instance : TCell Try.prog 25 := ⟨fun w => ⟨by kernel_rfl, by kernel_rfl⟩⟩
instance : TInt Try.prog 26 .i64 := ⟨Try.underlying26⟩
instance : TInfo Try.prog 26 1 8 ([.int .i64 0]) := ⟨⟨(Try.prog.info? 26).getD default, .int .i64 0, by kernel_rfl, by kernel_rfl, by kernel_rfl, by kernel_rfl, by kernel_rfl, by kernel_rfl, by decide⟩⟩
instance : TCell Try.prog 26 := ⟨fun w => ⟨by kernel_rfl, by kernel_rfl⟩⟩
instance : TPtr Try.prog 29 69 := ⟨Try.underlying29⟩
instance : TInfo Try.prog 29 1 8 ([.pointer none]) := ⟨⟨(Try.prog.info? 29).getD default, .pointer none, by kernel_rfl, by kernel_rfl, by kernel_rfl, by kernel_rfl, by kernel_rfl, by kernel_rfl, by decide⟩⟩
instance : TCell Try.prog 29 := ⟨fun w => ⟨by kernel_rfl, by kernel_rfl⟩⟩
instance : TInfo Try.prog 34 5 64 ([.string ⟨#[]⟩, .string ⟨#[]⟩, .string ⟨#[]⟩, .int .u64 0, .int .i64 0]) := ⟨⟨(Try.prog.info? 34).getD default, .agg ([.string ⟨#[]⟩, .string ⟨#[]⟩, .string ⟨#[]⟩, .int .u64 0, .int .i64 0]).toArray, by kernel_rfl, by kernel_rfl, by kernel_rfl, by kernel_rfl, by kernel_rfl, by kernel_rfl, by decide⟩⟩
instance : TAgg Try.prog 34 5 := ⟨fun w => ⟨by kernel_rfl, by kernel_rfl⟩⟩
instance : TField Try.prog 34 0 0 := ⟨fun w => ⟨(fsOf (Try.prog.underlying 34)), (fsOf (Try.prog.underlying 34)).getD 0 default, by kernel_rfl, by kernel_rfl, by kernel_rfl, by kernel_rfl, fun a => by kernel_rfl⟩⟩
instance : TField Try.prog 34 1 1 := ⟨fun w => ⟨(fsOf (Try.prog.underlying 34)), (fsOf (Try.prog.underlying 34)).getD 1 default, by kernel_rfl, by kernel_rfl, by kernel_rfl, by kernel_rfl, fun a => by kernel_rfl⟩⟩
instance : TField Try.prog 34 2 2 := ⟨fun w => ⟨(fsOf (Try.prog.underlying 34)), (fsOf (Try.prog.underlying 34)).getD 2 default, by kernel_rfl, by kernel_rfl, by kernel_rfl, by kernel_rfl, fun a => by kernel_rfl⟩⟩
instance : TField Try.prog 34 3 3 := ⟨fun w => ⟨(fsOf (Try.prog.underlying 34)), (fsOf (Try.prog.underlying 34)).getD 3 default, by kernel_rfl, by kernel_rfl, by kernel_rfl, by kernel_rfl, fun a => by kernel_rfl⟩⟩
instance : TField Try.prog 34 4 4 := ⟨fun w => ⟨(fsOf (Try.prog.underlying 34)), (fsOf (Try.prog.underlying 34)).getD 4 default, by kernel_rfl, by kernel_rfl, by kernel_rfl, by kernel_rfl, fun a => by kernel_rfl⟩⟩
instance : TPlaces Try.prog 34 [(0, 1), (1, 1), (2, 1), (3, 1), (4, 1)] ([.string ⟨#[]⟩, .string ⟨#[]⟩, .string ⟨#[]⟩, .int .u64 0, .int .i64 0]) := ⟨fun w => ⟨by kernel_rfl, (fsOf (Try.prog.underlying 34)), by kernel_rfl, by kernel_rfl⟩⟩
instance : TSlice Try.prog 39 45 := ⟨Try.underlying39⟩
instance : TInfo Try.prog 39 1 24 ([.slice none 0 0]) := ⟨⟨(Try.prog.info? 39).getD default, .slice none 0 0, by kernel_rfl, by kernel_rfl, by kernel_rfl, by kernel_rfl, by kernel_rfl, by kernel_rfl, by decide⟩⟩
instance : TCell Try.prog 39 := ⟨fun w => ⟨by kernel_rfl, by kernel_rfl⟩⟩
instance : TInfo Try.prog 41 4 64 ([.int .u64 0, .string ⟨#[]⟩, .string ⟨#[]⟩, .slice none 0 0]) := ⟨⟨(Try.prog.info? 41).getD default, .agg ([.int .u64 0, .string ⟨#[]⟩, .string ⟨#[]⟩, .slice none 0 0]).toArray, by kernel_rfl, by kernel_rfl, by kernel_rfl, by kernel_rfl, by kernel_rfl, by kernel_rfl, by decide⟩⟩
instance : TAgg Try.prog 41 4 := ⟨fun w => ⟨by kernel_rfl, by kernel_rfl⟩⟩
instance : TField Try.prog 41 0 0 := ⟨fun w => ⟨(fsOf (Try.prog.underlying 41)), (fsOf (Try.prog.underlying 41)).getD 0 default, by kernel_rfl, by kernel_rfl, by kernel_rfl, by kernel_rfl, fun a => by kernel_rfl⟩⟩
instance : TField Try.prog 41 1 1 := ⟨fun w => ⟨(fsOf (Try.prog.underlying 41)), (fsOf (Try.prog.underlying 41)).getD 1 default, by kernel_rfl, by kernel_rfl, by kernel_rfl, by kernel_rfl, fun a => by kernel_rfl⟩⟩
instance : TField Try.prog 41 2 2 := ⟨fun w => ⟨(fsOf (Try.prog.underlying 41)), (fsOf (Try.prog.underlying 41)).getD 2 default, by kernel_rfl, by kernel_rfl, by kernel_rfl, by kernel_rfl, fun a => by kernel_rfl⟩⟩
instance : TField Try.prog 41 3 3 := ⟨fun w => ⟨(fsOf (Try.prog.underlying 41)), (fsOf (Try.prog.underlying 41)).getD 3 default, by kernel_rfl, by kernel_rfl, by kernel_rfl, by kernel_rfl, fun a => by kernel_rfl⟩⟩
instance : TPlaces Try.prog 41 [(0, 1), (1, 1), (2, 1), (3, 1)] ([.int .u64 0, .string ⟨#[]⟩, .string ⟨#[]⟩, .slice none 0 0]) := ⟨fun w => ⟨by kernel_rfl, (fsOf (Try.prog.underlying 41)), by kernel_rfl, by kernel_rfl⟩⟩
instance : TInfo Try.prog 43 8 88 ([.string ⟨#[]⟩, .int .u64 0, .int .u64 0, .int .u64 0, .int .u64 0, .string ⟨#[]⟩, .int .u64 0, .string ⟨#[]⟩]) := ⟨⟨(Try.prog.info? 43).getD default, .agg ([.string ⟨#[]⟩, .int .u64 0, .int .u64 0, .int .u64 0, .int .u64 0, .string ⟨#[]⟩, .int .u64 0, .string ⟨#[]⟩]).toArray, by kernel_rfl, by kernel_rfl, by kernel_rfl, by kernel_rfl, by kernel_rfl, by kernel_rfl, by decide⟩⟩
instance : TAgg Try.prog 43 8 := ⟨fun w => ⟨by kernel_rfl, by kernel_rfl⟩⟩
instance : TField Try.prog 43 0 0 := ⟨fun w => ⟨(fsOf (Try.prog.underlying 43)), (fsOf (Try.prog.underlying 43)).getD 0 default, by kernel_rfl, by kernel_rfl, by kernel_rfl, by kernel_rfl, fun a => by kernel_rfl⟩⟩
instance : TField Try.prog 43 1 1 := ⟨fun w => ⟨(fsOf (Try.prog.underlying 43)), (fsOf (Try.prog.underlying 43)).getD 1 default, by kernel_rfl, by kernel_rfl, by kernel_rfl, by kernel_rfl, fun a => by kernel_rfl⟩⟩
instance : TField Try.prog 43 2 2 := ⟨fun w => ⟨(fsOf (Try.prog.underlying 43)), (fsOf (Try.prog.underlying 43)).getD 2 default, by kernel_rfl, by kernel_rfl, by kernel_rfl, by kernel_rfl, fun a => by kernel_rfl⟩⟩
instance : TField Try.prog 43 3 3 := ⟨fun w => ⟨(fsOf (Try.prog.underlying 43)), (fsOf (Try.prog.underlying 43)).getD 3 default, by kernel_rfl, by kernel_rfl, by kernel_rfl, by kernel_rfl, fun a => by kernel_rfl⟩⟩
instance : TField Try.prog 43 4 4 := ⟨fun w => ⟨(fsOf (Try.prog.underlying 43)), (fsOf (Try.prog.underlying 43)).getD 4 default, by kernel_rfl, by kernel_rfl, by kernel_rfl, by kernel_rfl, fun a => by kernel_rfl⟩⟩
instance : TField Try.prog 43 5 5 := ⟨fun w => ⟨(fsOf (Try.prog.underlying 43)), (fsOf (Try.prog.underlying 43)).getD 5 default, by kernel_rfl, by kernel_rfl, by kernel_rfl, by kernel_rfl, fun a => by kernel_rfl⟩⟩
instance : TField Try.prog 43 6 6 := ⟨fun w => ⟨(fsOf (Try.prog.underlying 43)), (fsOf (Try.prog.underlying 43)).getD 6 default, by kernel_rfl, by kernel_rfl, by kernel_rfl, by kernel_rfl, fun a => by kernel_rfl⟩⟩
instance : TField Try.prog 43 7 7 := ⟨fun w => ⟨(fsOf (Try.prog.underlying 43)), (fsOf (Try.prog.underlying 43)).getD 7 default, by kernel_rfl, by kernel_rfl, by kernel_rfl, by kernel_rfl, fun a => by kernel_rfl⟩⟩
instance : TPlaces Try.prog 43 [(0, 1), (1, 1), (2, 1), (3, 1), (4, 1), (5, 1), (6, 1), (7, 1)] ([.string ⟨#[]⟩, .int .u64 0, .int .u64 0, .int .u64 0, .int .u64 0, .string ⟨#[]⟩, .int .u64 0, .string ⟨#[]⟩]) := ⟨fun w => ⟨by kernel_rfl, (fsOf (Try.prog.underlying 43)), by kernel_rfl, by kernel_rfl⟩⟩
instance : TInfo Try.prog 45 10 112 ([.string ⟨#[]⟩, .int .u64 0, .int .u64 0, .int .u64 0, .int .u64 0, .string ⟨#[]⟩, .int .u64 0, .string ⟨#[]⟩, .string ⟨#[]⟩, .int .u64 0]) := ⟨⟨(Try.prog.info? 45).getD default, .agg ([.string ⟨#[]⟩, .int .u64 0, .int .u64 0, .int .u64 0, .int .u64 0, .string ⟨#[]⟩, .int .u64 0, .string ⟨#[]⟩, .string ⟨#[]⟩, .int .u64 0]).toArray, by kernel_rfl, by kernel_rfl, by kernel_rfl, by kernel_rfl, by kernel_rfl, by kernel_rfl, by decide⟩⟩
instance : TAgg Try.prog 45 10 := ⟨fun w => ⟨by kernel_rfl, by kernel_rfl⟩⟩
instance : TFieldAgg Try.prog 45 0 0 8 := ⟨fun w => ⟨(fsOf (Try.prog.underlying 45)), (fsOf (Try.prog.underlying 45)).getD 0 default, by kernel_rfl, by kernel_rfl, by kernel_rfl, by kernel_rfl, by kernel_rfl, fun a => by kernel_rfl⟩⟩
instance : TField Try.prog 45 1 8 := ⟨fun w => ⟨(fsOf (Try.prog.underlying 45)), (fsOf (Try.prog.underlying 45)).getD 1 default, by kernel_rfl, by kernel_rfl, by kernel_rfl, by kernel_rfl, fun a => by kernel_rfl⟩⟩
instance : TField Try.prog 45 2 9 := ⟨fun w => ⟨(fsOf (Try.prog.underlying 45)), (fsOf (Try.prog.underlying 45)).getD 2 default, by kernel_rfl, by kernel_rfl, by kernel_rfl, by kernel_rfl, fun a => by kernel_rfl⟩⟩
instance : TPlaces Try.prog 45 [(0, 8), (8, 1), (9, 1)] ([.string ⟨#[]⟩, .int .u64 0, .int .u64 0, .int .u64 0, .int .u64 0, .string ⟨#[]⟩, .int .u64 0, .string ⟨#[]⟩, .string ⟨#[]⟩, .int .u64 0]) := ⟨fun w => ⟨by kernel_rfl, (fsOf (Try.prog.underlying 45)), by kernel_rfl, by kernel_rfl⟩⟩
instance : TPtr Try.prog 56 58 := ⟨Try.underlying56⟩
instance : TInfo Try.prog 56 1 8 ([.pointer none]) := ⟨⟨(Try.prog.info? 56).getD default, .pointer none, by kernel_rfl, by kernel_rfl, by kernel_rfl, by kernel_rfl, by kernel_rfl, by kernel_rfl, by decide⟩⟩
instance : TCell Try.prog 56 := ⟨fun w => ⟨by kernel_rfl, by kernel_rfl⟩⟩
instance : TInfo Try.prog 58 2 16 ([.int .i64 0, .int .i64 0]) := ⟨⟨(Try.prog.info? 58).getD default, .agg ([.int .i64 0, .int .i64 0]).toArray, by kernel_rfl, by kernel_rfl, by kernel_rfl, by kernel_rfl, by kernel_rfl, by kernel_rfl, by decide⟩⟩
instance : TAgg Try.prog 58 2 := ⟨fun w => ⟨by kernel_rfl, by kernel_rfl⟩⟩
instance : TField Try.prog 58 0 0 := ⟨fun w => ⟨(fsOf (Try.prog.underlying 58)), (fsOf (Try.prog.underlying 58)).getD 0 default, by kernel_rfl, by kernel_rfl, by kernel_rfl, by kernel_rfl, fun a => by kernel_rfl⟩⟩
instance : TField Try.prog 58 1 1 := ⟨fun w => ⟨(fsOf (Try.prog.underlying 58)), (fsOf (Try.prog.underlying 58)).getD 1 default, by kernel_rfl, by kernel_rfl, by kernel_rfl, by kernel_rfl, fun a => by kernel_rfl⟩⟩
instance : TPlaces Try.prog 58 [(0, 1), (1, 1)] ([.int .i64 0, .int .i64 0]) := ⟨fun w => ⟨by kernel_rfl, (fsOf (Try.prog.underlying 58)), by kernel_rfl, by kernel_rfl⟩⟩
instance : TSlice Try.prog 59 9 := ⟨Try.underlying59⟩
instance : TInfo Try.prog 59 1 24 ([.slice none 0 0]) := ⟨⟨(Try.prog.info? 59).getD default, .slice none 0 0, by kernel_rfl, by kernel_rfl, by kernel_rfl, by kernel_rfl, by kernel_rfl, by kernel_rfl, by decide⟩⟩
instance : TCell Try.prog 59 := ⟨fun w => ⟨by kernel_rfl, by kernel_rfl⟩⟩
instance : TInfo Try.prog 61 4 64 ([.pointer none, .string ⟨#[]⟩, .slice none 0 0, .string ⟨#[]⟩]) := ⟨⟨(Try.prog.info? 61).getD default, .agg ([.pointer none, .string ⟨#[]⟩, .slice none 0 0, .string ⟨#[]⟩]).toArray, by kernel_rfl, by kernel_rfl, by kernel_rfl, by kernel_rfl, by kernel_rfl, by kernel_rfl, by decide⟩⟩
instance : TAgg Try.prog 61 4 := ⟨fun w => ⟨by kernel_rfl, by kernel_rfl⟩⟩
instance : TField Try.prog 61 0 0 := ⟨fun w => ⟨(fsOf (Try.prog.underlying 61)), (fsOf (Try.prog.underlying 61)).getD 0 default, by kernel_rfl, by kernel_rfl, by kernel_rfl, by kernel_rfl, fun a => by kernel_rfl⟩⟩
instance : TField Try.prog 61 1 1 := ⟨fun w => ⟨(fsOf (Try.prog.underlying 61)), (fsOf (Try.prog.underlying 61)).getD 1 default, by kernel_rfl, by kernel_rfl, by kernel_rfl, by kernel_rfl, fun a => by kernel_rfl⟩⟩
instance : TField Try.prog 61 2 2 := ⟨fun w => ⟨(fsOf (Try.prog.underlying 61)), (fsOf (Try.prog.underlying 61)).getD 2 default, by kernel_rfl, by kernel_rfl, by kernel_rfl, by kernel_rfl, fun a => by kernel_rfl⟩⟩
instance : TField Try.prog 61 3 3 := ⟨fun w => ⟨(fsOf (Try.prog.underlying 61)), (fsOf (Try.prog.underlying 61)).getD 3 default, by kernel_rfl, by kernel_rfl, by kernel_rfl, by kernel_rfl, fun a => by kernel_rfl⟩⟩
instance : TPlaces Try.prog 61 [(0, 1), (1, 1), (2, 1), (3, 1)] ([.pointer none, .string ⟨#[]⟩, .slice none 0 0, .string ⟨#[]⟩]) := ⟨fun w => ⟨by kernel_rfl, (fsOf (Try.prog.underlying 61)), by kernel_rfl, by kernel_rfl⟩⟩
instance : TInfo Try.prog 62 1 8 ([.nilFunc]) := ⟨⟨(Try.prog.info? 62).getD default, .nilFunc, by kernel_rfl, by kernel_rfl, by kernel_rfl, by kernel_rfl, by kernel_rfl, by kernel_rfl, by decide⟩⟩
instance : TCell Try.prog 62 := ⟨fun w => ⟨by kernel_rfl, by kernel_rfl⟩⟩
instance : TInfo Try.prog 67 1 8 ([.nilFunc]) := ⟨⟨(Try.prog.info? 67).getD default, .nilFunc, by kernel_rfl, by kernel_rfl, by kernel_rfl, by kernel_rfl, by kernel_rfl, by kernel_rfl, by decide⟩⟩
instance : TCell Try.prog 67 := ⟨fun w => ⟨by kernel_rfl, by kernel_rfl⟩⟩
instance : TInfo Try.prog 69 1 24 ([.slice none 0 0]) := ⟨⟨(Try.prog.info? 69).getD default, .agg ([.slice none 0 0]).toArray, by kernel_rfl, by kernel_rfl, by kernel_rfl, by kernel_rfl, by kernel_rfl, by kernel_rfl, by decide⟩⟩
instance : TAgg Try.prog 69 1 := ⟨fun w => ⟨by kernel_rfl, by kernel_rfl⟩⟩
instance : TField Try.prog 69 0 0 := ⟨fun w => ⟨(fsOf (Try.prog.underlying 69)), (fsOf (Try.prog.underlying 69)).getD 0 default, by kernel_rfl, by kernel_rfl, by kernel_rfl, by kernel_rfl, fun a => by kernel_rfl⟩⟩
instance : TPlaces Try.prog 69 [(0, 1)] ([.slice none 0 0]) := ⟨fun w => ⟨by kernel_rfl, (fsOf (Try.prog.underlying 69)), by kernel_rfl, by kernel_rfl⟩⟩
instance : TInfo Try.prog 76 2 24 ([.string ⟨#[]⟩, .int .i64 0]) := ⟨⟨(Try.prog.info? 76).getD default, .agg ([.string ⟨#[]⟩, .int .i64 0]).toArray, by kernel_rfl, by kernel_rfl, by kernel_rfl, by kernel_rfl, by kernel_rfl, by kernel_rfl, by decide⟩⟩
instance : TAgg Try.prog 76 2 := ⟨fun w => ⟨by kernel_rfl, by kernel_rfl⟩⟩
instance : TField Try.prog 76 0 0 := ⟨fun w => ⟨(fsOf (Try.prog.underlying 76)), (fsOf (Try.prog.underlying 76)).getD 0 default, by kernel_rfl, by kernel_rfl, by kernel_rfl, by kernel_rfl, fun a => by kernel_rfl⟩⟩
instance : TField Try.prog 76 1 1 := ⟨fun w => ⟨(fsOf (Try.prog.underlying 76)), (fsOf (Try.prog.underlying 76)).getD 1 default, by kernel_rfl, by kernel_rfl, by kernel_rfl, by kernel_rfl, fun a => by kernel_rfl⟩⟩
instance : TPlaces Try.prog 76 [(0, 1), (1, 1)] ([.string ⟨#[]⟩, .int .i64 0]) := ⟨fun w => ⟨by kernel_rfl, (fsOf (Try.prog.underlying 76)), by kernel_rfl, by kernel_rfl⟩⟩
instance : TPtr Try.prog 82 76 := ⟨Try.underlying82⟩
instance : TInfo Try.prog 82 1 8 ([.pointer none]) := ⟨⟨(Try.prog.info? 82).getD default, .pointer none, by kernel_rfl, by kernel_rfl, by kernel_rfl, by kernel_rfl, by kernel_rfl, by kernel_rfl, by decide⟩⟩
instance : TCell Try.prog 82 := ⟨fun w => ⟨by kernel_rfl, by kernel_rfl⟩⟩
instance : TSlice Try.prog 88 23 := ⟨Try.underlying88⟩
instance : TInfo Try.prog 88 1 24 ([.slice none 0 0]) := ⟨⟨(Try.prog.info? 88).getD default, .slice none 0 0, by kernel_rfl, by kernel_rfl, by kernel_rfl, by kernel_rfl, by kernel_rfl, by kernel_rfl, by decide⟩⟩
instance : TCell Try.prog 88 := ⟨fun w => ⟨by kernel_rfl, by kernel_rfl⟩⟩
instance : TInfo Try.prog 96 1 8 ([.nilFunc]) := ⟨⟨(Try.prog.info? 96).getD default, .nilFunc, by kernel_rfl, by kernel_rfl, by kernel_rfl, by kernel_rfl, by kernel_rfl, by kernel_rfl, by decide⟩⟩
instance : TCell Try.prog 96 := ⟨fun w => ⟨by kernel_rfl, by kernel_rfl⟩⟩
instance : TInfo Try.prog 97 1 8 ([.nilFunc]) := ⟨⟨(Try.prog.info? 97).getD default, .nilFunc, by kernel_rfl, by kernel_rfl, by kernel_rfl, by kernel_rfl, by kernel_rfl, by kernel_rfl, by decide⟩⟩
instance : TCell Try.prog 97 := ⟨fun w => ⟨by kernel_rfl, by kernel_rfl⟩⟩
instance : TSlice Try.prog 100 59 := ⟨Try.underlying100⟩
instance : TInfo Try.prog 100 1 24 ([.slice none 0 0]) := ⟨⟨(Try.prog.info? 100).getD default, .slice none 0 0, by kernel_rfl, by kernel_rfl, by kernel_rfl, by kernel_rfl, by kernel_rfl, by kernel_rfl, by decide⟩⟩
instance : TCell Try.prog 100 := ⟨fun w => ⟨by kernel_rfl, by kernel_rfl⟩⟩
instance : TSlice Try.prog 103 5 := ⟨Try.underlying103⟩
instance : TInfo Try.prog 103 1 24 ([.slice none 0 0]) := ⟨⟨(Try.prog.info? 103).getD default, .slice none 0 0, by kernel_rfl, by kernel_rfl, by kernel_rfl, by kernel_rfl, by kernel_rfl, by kernel_rfl, by decide⟩⟩
instance : TCell Try.prog 103 := ⟨fun w => ⟨by kernel_rfl, by kernel_rfl⟩⟩
instance : TInt Try.prog 104 .u64 := ⟨Try.underlying104⟩
instance : TInfo Try.prog 104 1 8 ([.int .u64 0]) := ⟨⟨(Try.prog.info? 104).getD default, .int .u64 0, by kernel_rfl, by kernel_rfl, by kernel_rfl, by kernel_rfl, by kernel_rfl, by kernel_rfl, by decide⟩⟩
instance : TCell Try.prog 104 := ⟨fun w => ⟨by kernel_rfl, by kernel_rfl⟩⟩
instance : TArr Try.prog 105 18 3 := ⟨Try.underlying105⟩
instance : TInfo Try.prog 105 18 144 (List.replicate 18 (.int .i64 0)) := ⟨⟨(Try.prog.info? 105).getD default, .agg (List.replicate 18 (.int .i64 0)).toArray, by kernel_rfl, by kernel_rfl, by kernel_rfl, by kernel_rfl, by kernel_rfl, by kernel_rfl, by decide⟩⟩
instance : TAgg Try.prog 105 18 := ⟨fun w => ⟨by kernel_rfl, by kernel_rfl⟩⟩
instance : TMap Try.prog 110 23 4 := ⟨Try.underlying110⟩
instance : TInfo Try.prog 110 1 8 ([.map none]) := ⟨⟨(Try.prog.info? 110).getD default, .map none, by kernel_rfl, by kernel_rfl, by kernel_rfl, by kernel_rfl, by kernel_rfl, by kernel_rfl, by decide⟩⟩
instance : TCell Try.prog 110 := ⟨fun w => ⟨by kernel_rfl, by kernel_rfl⟩⟩
instance : TPtr Try.prog 112 125 := ⟨Try.underlying112⟩
instance : TInfo Try.prog 112 1 8 ([.pointer none]) := ⟨⟨(Try.prog.info? 112).getD default, .pointer none, by kernel_rfl, by kernel_rfl, by kernel_rfl, by kernel_rfl, by kernel_rfl, by kernel_rfl, by decide⟩⟩
instance : TCell Try.prog 112 := ⟨fun w => ⟨by kernel_rfl, by kernel_rfl⟩⟩
instance : TInfo Try.prog 119 1 8 ([.nilFunc]) := ⟨⟨(Try.prog.info? 119).getD default, .nilFunc, by kernel_rfl, by kernel_rfl, by kernel_rfl, by kernel_rfl, by kernel_rfl, by kernel_rfl, by decide⟩⟩
instance : TCell Try.prog 119 := ⟨fun w => ⟨by kernel_rfl, by kernel_rfl⟩⟩
instance : TInfo Try.prog 120 1 8 ([.nilFunc]) := ⟨⟨(Try.prog.info? 120).getD default, .nilFunc, by kernel_rfl, by kernel_rfl, by kernel_rfl, by kernel_rfl, by kernel_rfl, by kernel_rfl, by decide⟩⟩
instance : TCell Try.prog 120 := ⟨fun w => ⟨by kernel_rfl, by kernel_rfl⟩⟩
instance : TInfo Try.prog 125 2 24 ([.string ⟨#[]⟩, .int .i64 0]) := ⟨⟨(Try.prog.info? 125).getD default, .agg ([.string ⟨#[]⟩, .int .i64 0]).toArray, by kernel_rfl, by kernel_rfl, by kernel_rfl, by kernel_rfl, by kernel_rfl, by kernel_rfl, by decide⟩⟩
instance : TAgg Try.prog 125 2 := ⟨fun w => ⟨by kernel_rfl, by kernel_rfl⟩⟩
instance : TField Try.prog 125 0 0 := ⟨fun w => ⟨(fsOf (Try.prog.underlying 125)), (fsOf (Try.prog.underlying 125)).getD 0 default, by kernel_rfl, by kernel_rfl, by kernel_rfl, by kernel_rfl, fun a => by kernel_rfl⟩⟩
instance : TField Try.prog 125 1 1 := ⟨fun w => ⟨(fsOf (Try.prog.underlying 125)), (fsOf (Try.prog.underlying 125)).getD 1 default, by kernel_rfl, by kernel_rfl, by kernel_rfl, by kernel_rfl, fun a => by kernel_rfl⟩⟩
instance : TPlaces Try.prog 125 [(0, 1), (1, 1)] ([.string ⟨#[]⟩, .int .i64 0]) := ⟨fun w => ⟨by kernel_rfl, (fsOf (Try.prog.underlying 125)), by kernel_rfl, by kernel_rfl⟩⟩
instance : TInfo Try.prog 128 1 8 ([.nilFunc]) := ⟨⟨(Try.prog.info? 128).getD default, .nilFunc, by kernel_rfl, by kernel_rfl, by kernel_rfl, by kernel_rfl, by kernel_rfl, by kernel_rfl, by decide⟩⟩
instance : TCell Try.prog 128 := ⟨fun w => ⟨by kernel_rfl, by kernel_rfl⟩⟩
instance : TInfo Try.prog 130 1 8 ([.nilFunc]) := ⟨⟨(Try.prog.info? 130).getD default, .nilFunc, by kernel_rfl, by kernel_rfl, by kernel_rfl, by kernel_rfl, by kernel_rfl, by kernel_rfl, by decide⟩⟩
instance : TCell Try.prog 130 := ⟨fun w => ⟨by kernel_rfl, by kernel_rfl⟩⟩
instance : TPtr Try.prog 134 142 := ⟨Try.underlying134⟩
instance : TInfo Try.prog 134 1 8 ([.pointer none]) := ⟨⟨(Try.prog.info? 134).getD default, .pointer none, by kernel_rfl, by kernel_rfl, by kernel_rfl, by kernel_rfl, by kernel_rfl, by kernel_rfl, by decide⟩⟩
instance : TCell Try.prog 134 := ⟨fun w => ⟨by kernel_rfl, by kernel_rfl⟩⟩
instance : TArr Try.prog 138 8 22 := ⟨Try.underlying138⟩
instance : TInfo Try.prog 138 8 32 (List.replicate 8 (.int .u32 0)) := ⟨⟨(Try.prog.info? 138).getD default, .agg (List.replicate 8 (.int .u32 0)).toArray, by kernel_rfl, by kernel_rfl, by kernel_rfl, by kernel_rfl, by kernel_rfl, by kernel_rfl, by decide⟩⟩
instance : TAgg Try.prog 138 8 := ⟨fun w => ⟨by kernel_rfl, by kernel_rfl⟩⟩
instance : TArr Try.prog 139 8 22 := ⟨Try.underlying139⟩
instance : TInfo Try.prog 139 8 32 (List.replicate 8 (.int .u32 0)) := ⟨⟨(Try.prog.info? 139).getD default, .agg (List.replicate 8 (.int .u32 0)).toArray, by kernel_rfl, by kernel_rfl, by kernel_rfl, by kernel_rfl, by kernel_rfl, by kernel_rfl, by decide⟩⟩
instance : TAgg Try.prog 139 8 := ⟨fun w => ⟨by kernel_rfl, by kernel_rfl⟩⟩
instance : TInfo Try.prog 142 10 56 ([.int .u32 0, .int .u32 0, .int .u32 0, .int .u32 0, .int .u32 0, .int .u32 0, .int .u32 0, .int .u32 0, .string ⟨#[]⟩, .int .i64 0]) := ⟨⟨(Try.prog.info? 142).getD default, .agg ([.int .u32 0, .int .u32 0, .int .u32 0, .int .u32 0, .int .u32 0, .int .u32 0, .int .u32 0, .int .u32 0, .string ⟨#[]⟩, .int .i64 0]).toArray, by kernel_rfl, by kernel_rfl, by kernel_rfl, by kernel_rfl, by kernel_rfl, by kernel_rfl, by decide⟩⟩
instance : TAgg Try.prog 142 10 := ⟨fun w => ⟨by kernel_rfl, by kernel_rfl⟩⟩
instance : TFieldAgg Try.prog 142 0 0 8 := ⟨fun w => ⟨(fsOf (Try.prog.underlying 142)), (fsOf (Try.prog.underlying 142)).getD 0 default, by kernel_rfl, by kernel_rfl, by kernel_rfl, by kernel_rfl, by kernel_rfl, fun a => by kernel_rfl⟩⟩
instance : TField Try.prog 142 1 8 := ⟨fun w => ⟨(fsOf (Try.prog.underlying 142)), (fsOf (Try.prog.underlying 142)).getD 1 default, by kernel_rfl, by kernel_rfl, by kernel_rfl, by kernel_rfl, fun a => by kernel_rfl⟩⟩
instance : TField Try.prog 142 2 9 := ⟨fun w => ⟨(fsOf (Try.prog.underlying 142)), (fsOf (Try.prog.underlying 142)).getD 2 default, by kernel_rfl, by kernel_rfl, by kernel_rfl, by kernel_rfl, fun a => by kernel_rfl⟩⟩
instance : TPlaces Try.prog 142 [(0, 8), (8, 1), (9, 1)] ([.int .u32 0, .int .u32 0, .int .u32 0, .int .u32 0, .int .u32 0, .int .u32 0, .int .u32 0, .int .u32 0, .string ⟨#[]⟩, .int .i64 0]) := ⟨fun w => ⟨by kernel_rfl, (fsOf (Try.prog.underlying 142)), by kernel_rfl, by kernel_rfl⟩⟩
instance : TPtr Try.prog 143 139 := ⟨Try.underlying143⟩
instance : TInfo Try.prog 143 1 8 ([.pointer none]) := ⟨⟨(Try.prog.info? 143).getD default, .pointer none, by kernel_rfl, by kernel_rfl, by kernel_rfl, by kernel_rfl, by kernel_rfl, by kernel_rfl, by decide⟩⟩
instance : TCell Try.prog 143 := ⟨fun w => ⟨by kernel_rfl, by kernel_rfl⟩⟩
instance : TPtr Try.prog 144 148 := ⟨Try.underlying144⟩
instance : TInfo Try.prog 144 1 8 ([.pointer none]) := ⟨⟨(Try.prog.info? 144).getD default, .pointer none, by kernel_rfl, by kernel_rfl, by kernel_rfl, by kernel_rfl, by kernel_rfl, by kernel_rfl, by decide⟩⟩
instance : TCell Try.prog 144 := ⟨fun w => ⟨by kernel_rfl, by kernel_rfl⟩⟩
instance : TArr Try.prog 148 64 22 := ⟨Try.underlying148⟩
instance : TInfo Try.prog 148 64 256 (List.replicate 64 (.int .u32 0)) := ⟨⟨(Try.prog.info? 148).getD default, .agg (List.replicate 64 (.int .u32 0)).toArray, by kernel_rfl, by kernel_rfl, by kernel_rfl, by kernel_rfl, by kernel_rfl, by kernel_rfl, by decide⟩⟩
instance : TAgg Try.prog 148 64 := ⟨fun w => ⟨by kernel_rfl, by kernel_rfl⟩⟩
instance : HasBody Try.prog 3 := ⟨Try.call3⟩
instance : HasBody Try.prog 4 := ⟨Try.call4⟩
instance : HasBody Try.prog 5 := ⟨Try.call5⟩
instance : HasBody Try.prog 6 := ⟨Try.call6⟩
instance : HasBody Try.prog 7 := ⟨Try.call7⟩
instance : HasBody Try.prog 8 := ⟨Try.call8⟩
instance : HasBody Try.prog 9 := ⟨Try.call9⟩
instance : HasBody Try.prog 10 := ⟨Try.call10⟩
instance : HasBody Try.prog 11 := ⟨Try.call11⟩
instance : HasBody Try.prog 12 := ⟨Try.call12⟩
instance : HasBody Try.prog 13 := ⟨Try.call13⟩
instance : HasBody Try.prog 14 := ⟨Try.call14⟩
instance : HasBody Try.prog 15 := ⟨Try.call15⟩
instance : HasBody Try.prog 16 := ⟨Try.call16⟩
instance : HasBody Try.prog 17 := ⟨Try.call17⟩
instance : HasBody Try.prog 18 := ⟨Try.call18⟩
instance : HasBody Try.prog 19 := ⟨Try.call19⟩
instance : HasBody Try.prog 20 := ⟨Try.call20⟩
instance : HasBody Try.prog 21 := ⟨Try.call21⟩
instance : HasBody Try.prog 22 := ⟨Try.call22⟩
instance : HasBody Try.prog 23 := ⟨Try.call23⟩
instance : HasBody Try.prog 24 := ⟨Try.call24⟩
instance : HasBody Try.prog 25 := ⟨Try.call25⟩
instance : HasBody Try.prog 26 := ⟨Try.call26⟩
instance : HasBody Try.prog 27 := ⟨Try.call27⟩
instance : HasBody Try.prog 28 := ⟨Try.call28⟩
instance : HasBody Try.prog 29 := ⟨Try.call29⟩
instance : HasBody Try.prog 30 := ⟨Try.call30⟩
instance : HasBody Try.prog 31 := ⟨Try.call31⟩
instance : HasBody Try.prog 32 := ⟨Try.call32⟩
instance : HasBody Try.prog 33 := ⟨Try.call33⟩
instance : HasBody Try.prog 34 := ⟨Try.call34⟩
instance : HasBody Try.prog 35 := ⟨Try.call35⟩
instance : HasBody Try.prog 36 := ⟨Try.call36⟩
instance : HasBody Try.prog 37 := ⟨Try.call37⟩
instance : HasBody Try.prog 38 := ⟨Try.call38⟩
instance : HasBody Try.prog 39 := ⟨Try.call39⟩
instance : HasBody Try.prog 40 := ⟨Try.call40⟩
instance : HasBody Try.prog 41 := ⟨Try.call41⟩
instance : HasBody Try.prog 42 := ⟨Try.call42⟩
instance : HasBody Try.prog 43 := ⟨Try.call43⟩
instance : HasBody Try.prog 44 := ⟨Try.call44⟩
instance : HasBody Try.prog 45 := ⟨Try.call45⟩
instance : HasBody Try.prog 46 := ⟨Try.call46⟩
instance : HasBody Try.prog 47 := ⟨Try.call47⟩
instance : HasBody Try.prog 48 := ⟨Try.call48⟩
instance : HasBody Try.prog 49 := ⟨Try.call49⟩
instance : HasBody Try.prog 50 := ⟨Try.call50⟩
instance : HasBody Try.prog 51 := ⟨Try.call51⟩
instance : HasBody Try.prog 52 := ⟨Try.call52⟩
instance : HasBody Try.prog 53 := ⟨Try.call53⟩
instance : HasBody Try.prog 54 := ⟨Try.call54⟩
instance : HasBody Try.prog 55 := ⟨Try.call55⟩
instance : HasBody Try.prog 56 := ⟨Try.call56⟩
instance : HasBody Try.prog 57 := ⟨Try.call57⟩
instance : HasBody Try.prog 58 := ⟨Try.call58⟩
instance : HasBody Try.prog 59 := ⟨Try.call59⟩
instance : HasBody Try.prog 60 := ⟨Try.call60⟩
instance : HasBody Try.prog 61 := ⟨Try.call61⟩
instance : HasBody Try.prog 62 := ⟨Try.call62⟩
instance : HasBody Try.prog 63 := ⟨Try.call63⟩
instance : HasBody Try.prog 64 := ⟨Try.call64⟩
instance : HasBody Try.prog 65 := ⟨Try.call65⟩
instance : HasBody Try.prog 66 := ⟨Try.call66⟩
instance : HasBody Try.prog 67 := ⟨Try.call67⟩
instance : HasBody Try.prog 68 := ⟨Try.call68⟩
instance : HasBody Try.prog 69 := ⟨Try.call69⟩
instance : HasBody Try.prog 70 := ⟨Try.call70⟩
instance : HasBody Try.prog 71 := ⟨Try.call71⟩
instance : HasBody Try.prog 72 := ⟨Try.call72⟩
instance : HasBody Try.prog 73 := ⟨Try.call73⟩
instance : HasBody Try.prog 74 := ⟨Try.call74⟩
instance : HasBody Try.prog 75 := ⟨Try.call75⟩
instance : HasBody Try.prog 76 := ⟨Try.call76⟩
instance : HasBody Try.prog 77 := ⟨Try.call77⟩
instance : HasBody Try.prog 78 := ⟨Try.call78⟩
instance : HasBody Try.prog 79 := ⟨Try.call79⟩
instance : HasBody Try.prog 80 := ⟨Try.call80⟩
instance : HasBody Try.prog 81 := ⟨Try.call81⟩
instance : HasBody Try.prog 82 := ⟨Try.call82⟩
instance : HasBody Try.prog 83 := ⟨Try.call83⟩
instance : HasBody Try.prog 84 := ⟨Try.call84⟩
instance : HasBody Try.prog 85 := ⟨Try.call85⟩
instance : HasBody Try.prog 86 := ⟨Try.call86⟩
instance : HasBody Try.prog 87 := ⟨Try.call87⟩
instance : HasBody Try.prog 88 := ⟨Try.call88⟩
instance : HasBody Try.prog 89 := ⟨Try.call89⟩
instance : HasBody Try.prog 90 := ⟨Try.call90⟩
instance : HasBody Try.prog 91 := ⟨Try.call91⟩
instance : HasBody Try.prog 92 := ⟨Try.call92⟩
instance : HasBody Try.prog 93 := ⟨Try.call93⟩
instance : HasBody Try.prog 94 := ⟨Try.call94⟩
instance : HasBody Try.prog 95 := ⟨Try.call95⟩
instance : HasBody Try.prog 96 := ⟨Try.call96⟩
instance : HasBody Try.prog 97 := ⟨Try.call97⟩
instance : HasBody Try.prog 98 := ⟨Try.call98⟩
instance : HasBody Try.prog 99 := ⟨Try.call99⟩
end Go.Proofs.Ytddpoigfliaklaa
