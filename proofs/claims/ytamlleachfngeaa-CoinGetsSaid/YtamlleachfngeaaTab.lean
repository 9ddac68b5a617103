/- The types and functions of this translation, as instances for the calculus. Written by program. -/
import Derived.Test.YtamlleachfngeaaChecked
import Derived.Test.YtamlleachfngeaaJf
namespace Go.Proofs.Ytamlleachfngeaa
set_option maxRecDepth 100000
instance : Mixed Try.prog := ⟨by kernel_rfl⟩
instance : TInt Try.prog 3 .i64 := ⟨Try.underlying3⟩
instance : TInfo Try.prog 3 1 8 ([.int .i64 0]) := ⟨⟨(Try.prog.info? 3).getD default, .int .i64 0, by kernel_rfl, by kernel_rfl, by kernel_rfl, by kernel_rfl, by kernel_rfl, by kernel_rfl, by decide⟩⟩
instance : TCell Try.prog 3 := ⟨fun w => ⟨by kernel_rfl, by kernel_rfl⟩⟩
instance : TBool Try.prog 4 := ⟨Try.underlying4⟩
instance : TInfo Try.prog 4 1 1 ([.bool false]) := ⟨⟨(Try.prog.info? 4).getD default, .bool false, by kernel_rfl, by kernel_rfl, by kernel_rfl, by kernel_rfl, by kernel_rfl, by kernel_rfl, by decide⟩⟩
instance : TCell Try.prog 4 := ⟨fun w => ⟨by kernel_rfl, by kernel_rfl⟩⟩
instance : TInt Try.prog 5 .u8 := ⟨Try.underlying5⟩
instance : TInfo Try.prog 5 1 1 ([.int .u8 0]) := ⟨⟨(Try.prog.info? 5).getD default, .int .u8 0, by kernel_rfl, by kernel_rfl, by kernel_rfl, by kernel_rfl, by kernel_rfl, by kernel_rfl, by decide⟩⟩
instance : TCell Try.prog 5 := ⟨fun w => ⟨by kernel_rfl, by kernel_rfl⟩⟩
instance : TStr Try.prog 9 := ⟨Try.underlying9⟩
instance : TInfo Try.prog 9 1 16 ([.string ⟨#[]⟩]) := ⟨⟨(Try.prog.info? 9).getD default, .string ⟨#[]⟩, by kernel_rfl, by kernel_rfl, by kernel_rfl, by kernel_rfl, by kernel_rfl, by kernel_rfl, by decide⟩⟩
instance : TCell Try.prog 9 := ⟨fun w => ⟨by kernel_rfl, by kernel_rfl⟩⟩
instance : TSlice Try.prog 22 55 := ⟨Try.underlying22⟩
instance : TInfo Try.prog 22 1 24 ([.slice none 0 0]) := ⟨⟨(Try.prog.info? 22).getD default, .slice none 0 0, by kernel_rfl, by kernel_rfl, by kernel_rfl, by kernel_rfl, by kernel_rfl, by kernel_rfl, by decide⟩⟩
instance : TCell Try.prog 22 := ⟨fun w => ⟨by kernel_rfl, by kernel_rfl⟩⟩
instance : TSlice Try.prog 23 58 := ⟨Try.underlying23⟩
instance : TInfo Try.prog 23 1 24 ([.slice none 0 0]) := ⟨⟨(Try.prog.info? 23).getD default, .slice none 0 0, by kernel_rfl, by kernel_rfl, by kernel_rfl, by kernel_rfl, by kernel_rfl, by kernel_rfl, by decide⟩⟩
instance : TCell Try.prog 23 := ⟨fun w => ⟨by kernel_rfl, by kernel_rfl⟩⟩
instance : TInt Try.prog 24 .u64 := ⟨Try.underlying24⟩
instance : TInfo Try.prog 24 1 8 ([.int .u64 0]) := ⟨⟨(Try.prog.info? 24).getD default, .int .u64 0, by kernel_rfl, by kernel_rfl, by kernel_rfl, by kernel_rfl, by kernel_rfl, by kernel_rfl, by decide⟩⟩
instance : TCell Try.prog 24 := ⟨fun w => ⟨by kernel_rfl, by kernel_rfl⟩⟩
instance : TSlice Try.prog 25 101 := ⟨Try.underlying25⟩
instance : TInfo Try.prog 25 1 24 ([.slice none 0 0]) := ⟨⟨(Try.prog.info? 25).getD default, .slice none 0 0, by kernel_rfl, by kernel_rfl, by kernel_rfl, by kernel_rfl, by kernel_rfl, by kernel_rfl, by decide⟩⟩
instance : TCell Try.prog 25 := ⟨fun w => ⟨by kernel_rfl, by kernel_rfl⟩⟩
instance : TInfo Try.prog 27 4 64 ([.int .u64 0, .string ⟨#[]⟩, .string ⟨#[]⟩, .slice none 0 0]) := ⟨⟨(Try.prog.info? 27).getD default, .agg ([.int .u64 0, .string ⟨#[]⟩, .string ⟨#[]⟩, .slice none 0 0]).toArray, by kernel_rfl, by kernel_rfl, by kernel_rfl, by kernel_rfl, by kernel_rfl, by kernel_rfl, by decide⟩⟩
instance : TAgg Try.prog 27 4 := ⟨fun w => ⟨by kernel_rfl, by kernel_rfl⟩⟩
instance : TField Try.prog 27 0 0 := ⟨fun w => ⟨(fsOf (Try.prog.underlying 27)), (fsOf (Try.prog.underlying 27)).getD 0 default, by kernel_rfl, by kernel_rfl, by kernel_rfl, by kernel_rfl, fun a => by kernel_rfl⟩⟩
instance : TField Try.prog 27 1 1 := ⟨fun w => ⟨(fsOf (Try.prog.underlying 27)), (fsOf (Try.prog.underlying 27)).getD 1 default, by kernel_rfl, by kernel_rfl, by kernel_rfl, by kernel_rfl, fun a => by kernel_rfl⟩⟩
instance : TField Try.prog 27 2 2 := ⟨fun w => ⟨(fsOf (Try.prog.underlying 27)), (fsOf (Try.prog.underlying 27)).getD 2 default, by kernel_rfl, by kernel_rfl, by kernel_rfl, by kernel_rfl, fun a => by kernel_rfl⟩⟩
instance : TField Try.prog 27 3 3 := ⟨fun w => ⟨(fsOf (Try.prog.underlying 27)), (fsOf (Try.prog.underlying 27)).getD 3 default, by kernel_rfl, by kernel_rfl, by kernel_rfl, by kernel_rfl, fun a => by kernel_rfl⟩⟩
instance : TPlaces Try.prog 27 [(0, 1), (1, 1), (2, 1), (3, 1)] ([.int .u64 0, .string ⟨#[]⟩, .string ⟨#[]⟩, .slice none 0 0]) := ⟨fun w => ⟨by kernel_rfl, (fsOf (Try.prog.underlying 27)), by kernel_rfl, by kernel_rfl⟩⟩
instance : TInfo Try.prog 29 6 112 ([.slice none 0 0, .slice none 0 0, .int .u64 0, .string ⟨#[]⟩, .string ⟨#[]⟩, .slice none 0 0]) := ⟨⟨(Try.prog.info? 29).getD default, .agg ([.slice none 0 0, .slice none 0 0, .int .u64 0, .string ⟨#[]⟩, .string ⟨#[]⟩, .slice none 0 0]).toArray, by kernel_rfl, by kernel_rfl, by kernel_rfl, by kernel_rfl, by kernel_rfl, by kernel_rfl, by decide⟩⟩
instance : TAgg Try.prog 29 6 := ⟨fun w => ⟨by kernel_rfl, by kernel_rfl⟩⟩
instance : TField Try.prog 29 0 0 := ⟨fun w => ⟨(fsOf (Try.prog.underlying 29)), (fsOf (Try.prog.underlying 29)).getD 0 default, by kernel_rfl, by kernel_rfl, by kernel_rfl, by kernel_rfl, fun a => by kernel_rfl⟩⟩
instance : TField Try.prog 29 1 1 := ⟨fun w => ⟨(fsOf (Try.prog.underlying 29)), (fsOf (Try.prog.underlying 29)).getD 1 default, by kernel_rfl, by kernel_rfl, by kernel_rfl, by kernel_rfl, fun a => by kernel_rfl⟩⟩
instance : TFieldAgg Try.prog 29 2 2 4 := ⟨fun w => ⟨(fsOf (Try.prog.underlying 29)), (fsOf (Try.prog.underlying 29)).getD 2 default, by kernel_rfl, by kernel_rfl, by kernel_rfl, by kernel_rfl, by kernel_rfl, fun a => by kernel_rfl⟩⟩
instance : TPlaces Try.prog 29 [(0, 1), (1, 1), (2, 4)] ([.slice none 0 0, .slice none 0 0, .int .u64 0, .string ⟨#[]⟩, .string ⟨#[]⟩, .slice none 0 0]) := ⟨fun w => ⟨by kernel_rfl, (fsOf (Try.prog.underlying 29)), by kernel_rfl, by kernel_rfl⟩⟩
instance : TInt Try.prog 30 .i64 := ⟨Try.underlying30⟩
instance : TInfo Try.prog 30 1 8 ([.int .i64 0]) := ⟨⟨(Try.prog.info? 30).getD default, .int .i64 0, by kernel_rfl, by kernel_rfl, by kernel_rfl, by kernel_rfl, by kernel_rfl, by kernel_rfl, by decide⟩⟩
instance : TCell Try.prog 30 := ⟨fun w => ⟨by kernel_rfl, by kernel_rfl⟩⟩
instance : TSlice Try.prog 33 75 := ⟨Try.underlying33⟩
instance : TInfo Try.prog 33 1 24 ([.slice none 0 0]) := ⟨⟨(Try.prog.info? 33).getD default, .slice none 0 0, by kernel_rfl, by kernel_rfl, by kernel_rfl, by kernel_rfl, by kernel_rfl, by kernel_rfl, by decide⟩⟩
instance : TCell Try.prog 33 := ⟨fun w => ⟨by kernel_rfl, by kernel_rfl⟩⟩
instance : TSlice Try.prog 34 79 := ⟨Try.underlying34⟩
instance : TInfo Try.prog 34 1 24 ([.slice none 0 0]) := ⟨⟨(Try.prog.info? 34).getD default, .slice none 0 0, by kernel_rfl, by kernel_rfl, by kernel_rfl, by kernel_rfl, by kernel_rfl, by kernel_rfl, by decide⟩⟩
instance : TCell Try.prog 34 := ⟨fun w => ⟨by kernel_rfl, by kernel_rfl⟩⟩
instance : TSlice Try.prog 35 121 := ⟨Try.underlying35⟩
instance : TInfo Try.prog 35 1 24 ([.slice none 0 0]) := ⟨⟨(Try.prog.info? 35).getD default, .slice none 0 0, by kernel_rfl, by kernel_rfl, by kernel_rfl, by kernel_rfl, by kernel_rfl, by kernel_rfl, by decide⟩⟩
instance : TCell Try.prog 35 := ⟨fun w => ⟨by kernel_rfl, by kernel_rfl⟩⟩
instance : TInfo Try.prog 37 4 64 ([.int .u64 0, .string ⟨#[]⟩, .string ⟨#[]⟩, .slice none 0 0]) := ⟨⟨(Try.prog.info? 37).getD default, .agg ([.int .u64 0, .string ⟨#[]⟩, .string ⟨#[]⟩, .slice none 0 0]).toArray, by kernel_rfl, by kernel_rfl, by kernel_rfl, by kernel_rfl, by kernel_rfl, by kernel_rfl, by decide⟩⟩
instance : TAgg Try.prog 37 4 := ⟨fun w => ⟨by kernel_rfl, by kernel_rfl⟩⟩
instance : TField Try.prog 37 0 0 := ⟨fun w => ⟨(fsOf (Try.prog.underlying 37)), (fsOf (Try.prog.underlying 37)).getD 0 default, by kernel_rfl, by kernel_rfl, by kernel_rfl, by kernel_rfl, fun a => by kernel_rfl⟩⟩
instance : TField Try.prog 37 1 1 := ⟨fun w => ⟨(fsOf (Try.prog.underlying 37)), (fsOf (Try.prog.underlying 37)).getD 1 default, by kernel_rfl, by kernel_rfl, by kernel_rfl, by kernel_rfl, fun a => by kernel_rfl⟩⟩
instance : TField Try.prog 37 2 2 := ⟨fun w => ⟨(fsOf (Try.prog.underlying 37)), (fsOf (Try.prog.underlying 37)).getD 2 default, by kernel_rfl, by kernel_rfl, by kernel_rfl, by kernel_rfl, fun a => by kernel_rfl⟩⟩
instance : TField Try.prog 37 3 3 := ⟨fun w => ⟨(fsOf (Try.prog.underlying 37)), (fsOf (Try.prog.underlying 37)).getD 3 default, by kernel_rfl, by kernel_rfl, by kernel_rfl, by kernel_rfl, fun a => by kernel_rfl⟩⟩
instance : TPlaces Try.prog 37 [(0, 1), (1, 1), (2, 1), (3, 1)] ([.int .u64 0, .string ⟨#[]⟩, .string ⟨#[]⟩, .slice none 0 0]) := ⟨fun w => ⟨by kernel_rfl, (fsOf (Try.prog.underlying 37)), by kernel_rfl, by kernel_rfl⟩⟩
instance : TInfo Try.prog 39 6 112 ([.slice none 0 0, .slice none 0 0, .int .u64 0, .string ⟨#[]⟩, .string ⟨#[]⟩, .slice none 0 0]) := ⟨⟨(Try.prog.info? 39).getD default, .agg ([.slice none 0 0, .slice none 0 0, .int .u64 0, .string ⟨#[]⟩, .string ⟨#[]⟩, .slice none 0 0]).toArray, by kernel_rfl, by kernel_rfl, by kernel_rfl, by kernel_rfl, by kernel_rfl, by kernel_rfl, by decide⟩⟩
instance : TAgg Try.prog 39 6 := ⟨fun w => ⟨by kernel_rfl, by kernel_rfl⟩⟩
instance : TField Try.prog 39 0 0 := ⟨fun w => ⟨(fsOf (Try.prog.underlying 39)), (fsOf (Try.prog.underlying 39)).getD 0 default, by kernel_rfl, by kernel_rfl, by kernel_rfl, by kernel_rfl, fun a => by kernel_rfl⟩⟩
instance : TField Try.prog 39 1 1 := ⟨fun w => ⟨(fsOf (Try.prog.underlying 39)), (fsOf (Try.prog.underlying 39)).getD 1 default, by kernel_rfl, by kernel_rfl, by kernel_rfl, by kernel_rfl, fun a => by kernel_rfl⟩⟩
instance : TFieldAgg Try.prog 39 2 2 4 := ⟨fun w => ⟨(fsOf (Try.prog.underlying 39)), (fsOf (Try.prog.underlying 39)).getD 2 default, by kernel_rfl, by kernel_rfl, by kernel_rfl, by kernel_rfl, by kernel_rfl, fun a => by kernel_rfl⟩⟩
instance : TPlaces Try.prog 39 [(0, 1), (1, 1), (2, 4)] ([.slice none 0 0, .slice none 0 0, .int .u64 0, .string ⟨#[]⟩, .string ⟨#[]⟩, .slice none 0 0]) := ⟨fun w => ⟨by kernel_rfl, (fsOf (Try.prog.underlying 39)), by kernel_rfl, by kernel_rfl⟩⟩
instance : TInfo Try.prog 53 2 24 ([.string ⟨#[]⟩, .int .i64 0]) := ⟨⟨(Try.prog.info? 53).getD default, .agg ([.string ⟨#[]⟩, .int .i64 0]).toArray, by kernel_rfl, by kernel_rfl, by kernel_rfl, by kernel_rfl, by kernel_rfl, by kernel_rfl, by decide⟩⟩
instance : TAgg Try.prog 53 2 := ⟨fun w => ⟨by kernel_rfl, by kernel_rfl⟩⟩
instance : TField Try.prog 53 0 0 := ⟨fun w => ⟨(fsOf (Try.prog.underlying 53)), (fsOf (Try.prog.underlying 53)).getD 0 default, by kernel_rfl, by kernel_rfl, by kernel_rfl, by kernel_rfl, fun a => by kernel_rfl⟩⟩
instance : TField Try.prog 53 1 1 := ⟨fun w => ⟨(fsOf (Try.prog.underlying 53)), (fsOf (Try.prog.underlying 53)).getD 1 default, by kernel_rfl, by kernel_rfl, by kernel_rfl, by kernel_rfl, fun a => by kernel_rfl⟩⟩
instance : TPlaces Try.prog 53 [(0, 1), (1, 1)] ([.string ⟨#[]⟩, .int .i64 0]) := ⟨fun w => ⟨by kernel_rfl, (fsOf (Try.prog.underlying 53)), by kernel_rfl, by kernel_rfl⟩⟩
instance : TInfo Try.prog 55 4 48 ([.string ⟨#[]⟩, .int .i64 0, .int .i64 0, .string ⟨#[]⟩]) := ⟨⟨(Try.prog.info? 55).getD default, .agg ([.string ⟨#[]⟩, .int .i64 0, .int .i64 0, .string ⟨#[]⟩]).toArray, by kernel_rfl, by kernel_rfl, by kernel_rfl, by kernel_rfl, by kernel_rfl, by kernel_rfl, by decide⟩⟩
instance : TAgg Try.prog 55 4 := ⟨fun w => ⟨by kernel_rfl, by kernel_rfl⟩⟩
instance : TFieldAgg Try.prog 55 0 0 2 := ⟨fun w => ⟨(fsOf (Try.prog.underlying 55)), (fsOf (Try.prog.underlying 55)).getD 0 default, by kernel_rfl, by kernel_rfl, by kernel_rfl, by kernel_rfl, by kernel_rfl, fun a => by kernel_rfl⟩⟩
instance : TField Try.prog 55 1 2 := ⟨fun w => ⟨(fsOf (Try.prog.underlying 55)), (fsOf (Try.prog.underlying 55)).getD 1 default, by kernel_rfl, by kernel_rfl, by kernel_rfl, by kernel_rfl, fun a => by kernel_rfl⟩⟩
instance : TField Try.prog 55 2 3 := ⟨fun w => ⟨(fsOf (Try.prog.underlying 55)), (fsOf (Try.prog.underlying 55)).getD 2 default, by kernel_rfl, by kernel_rfl, by kernel_rfl, by kernel_rfl, fun a => by kernel_rfl⟩⟩
instance : TPlaces Try.prog 55 [(0, 2), (2, 1), (3, 1)] ([.string ⟨#[]⟩, .int .i64 0, .int .i64 0, .string ⟨#[]⟩]) := ⟨fun w => ⟨by kernel_rfl, (fsOf (Try.prog.underlying 55)), by kernel_rfl, by kernel_rfl⟩⟩
instance : TInfo Try.prog 58 9 104 ([.int .i64 0, .int .u64 0, .string ⟨#[]⟩, .string ⟨#[]⟩, .int .i64 0, .string ⟨#[]⟩, .int .u64 0, .int .i64 0, .string ⟨#[]⟩]) := ⟨⟨(Try.prog.info? 58).getD default, .agg ([.int .i64 0, .int .u64 0, .string ⟨#[]⟩, .string ⟨#[]⟩, .int .i64 0, .string ⟨#[]⟩, .int .u64 0, .int .i64 0, .string ⟨#[]⟩]).toArray, by kernel_rfl, by kernel_rfl, by kernel_rfl, by kernel_rfl, by kernel_rfl, by kernel_rfl, by decide⟩⟩
instance : TAgg Try.prog 58 9 := ⟨fun w => ⟨by kernel_rfl, by kernel_rfl⟩⟩
instance : TField Try.prog 58 0 0 := ⟨fun w => ⟨(fsOf (Try.prog.underlying 58)), (fsOf (Try.prog.underlying 58)).getD 0 default, by kernel_rfl, by kernel_rfl, by kernel_rfl, by kernel_rfl, fun a => by kernel_rfl⟩⟩
instance : TField Try.prog 58 1 1 := ⟨fun w => ⟨(fsOf (Try.prog.underlying 58)), (fsOf (Try.prog.underlying 58)).getD 1 default, by kernel_rfl, by kernel_rfl, by kernel_rfl, by kernel_rfl, fun a => by kernel_rfl⟩⟩
instance : TField Try.prog 58 2 2 := ⟨fun w => ⟨(fsOf (Try.prog.underlying 58)), (fsOf (Try.prog.underlying 58)).getD 2 default, by kernel_rfl, by kernel_rfl, by kernel_rfl, by kernel_rfl, fun a => by kernel_rfl⟩⟩
instance : TField Try.prog 58 3 3 := ⟨fun w => ⟨(fsOf (Try.prog.underlying 58)), (fsOf (Try.prog.underlying 58)).getD 3 default, by kernel_rfl, by kernel_rfl, by kernel_rfl, by kernel_rfl, fun a => by kernel_rfl⟩⟩
instance : TField Try.prog 58 4 4 := ⟨fun w => ⟨(fsOf (Try.prog.underlying 58)), (fsOf (Try.prog.underlying 58)).getD 4 default, by kernel_rfl, by kernel_rfl, by kernel_rfl, by kernel_rfl, fun a => by kernel_rfl⟩⟩
instance : TField Try.prog 58 5 5 := ⟨fun w => ⟨(fsOf (Try.prog.underlying 58)), (fsOf (Try.prog.underlying 58)).getD 5 default, by kernel_rfl, by kernel_rfl, by kernel_rfl, by kernel_rfl, fun a => by kernel_rfl⟩⟩
instance : TField Try.prog 58 6 6 := ⟨fun w => ⟨(fsOf (Try.prog.underlying 58)), (fsOf (Try.prog.underlying 58)).getD 6 default, by kernel_rfl, by kernel_rfl, by kernel_rfl, by kernel_rfl, fun a => by kernel_rfl⟩⟩
instance : TField Try.prog 58 7 7 := ⟨fun w => ⟨(fsOf (Try.prog.underlying 58)), (fsOf (Try.prog.underlying 58)).getD 7 default, by kernel_rfl, by kernel_rfl, by kernel_rfl, by kernel_rfl, fun a => by kernel_rfl⟩⟩
instance : TField Try.prog 58 8 8 := ⟨fun w => ⟨(fsOf (Try.prog.underlying 58)), (fsOf (Try.prog.underlying 58)).getD 8 default, by kernel_rfl, by kernel_rfl, by kernel_rfl, by kernel_rfl, fun a => by kernel_rfl⟩⟩
instance : TPlaces Try.prog 58 [(0, 1), (1, 1), (2, 1), (3, 1), (4, 1), (5, 1), (6, 1), (7, 1), (8, 1)] ([.int .i64 0, .int .u64 0, .string ⟨#[]⟩, .string ⟨#[]⟩, .int .i64 0, .string ⟨#[]⟩, .int .u64 0, .int .i64 0, .string ⟨#[]⟩]) := ⟨fun w => ⟨by kernel_rfl, (fsOf (Try.prog.underlying 58)), by kernel_rfl, by kernel_rfl⟩⟩
instance : TInfo Try.prog 60 1 8 ([.nilFunc]) := ⟨⟨(Try.prog.info? 60).getD default, .nilFunc, by kernel_rfl, by kernel_rfl, by kernel_rfl, by kernel_rfl, by kernel_rfl, by kernel_rfl, by decide⟩⟩
instance : TCell Try.prog 60 := ⟨fun w => ⟨by kernel_rfl, by kernel_rfl⟩⟩
instance : TPtr Try.prog 64 108 := ⟨Try.underlying64⟩
instance : TInfo Try.prog 64 1 8 ([.pointer none]) := ⟨⟨(Try.prog.info? 64).getD default, .pointer none, by kernel_rfl, by kernel_rfl, by kernel_rfl, by kernel_rfl, by kernel_rfl, by kernel_rfl, by decide⟩⟩
instance : TCell Try.prog 64 := ⟨fun w => ⟨by kernel_rfl, by kernel_rfl⟩⟩
instance : TPtr Try.prog 72 74 := ⟨Try.underlying72⟩
instance : TInfo Try.prog 72 1 8 ([.pointer none]) := ⟨⟨(Try.prog.info? 72).getD default, .pointer none, by kernel_rfl, by kernel_rfl, by kernel_rfl, by kernel_rfl, by kernel_rfl, by kernel_rfl, by decide⟩⟩
instance : TCell Try.prog 72 := ⟨fun w => ⟨by kernel_rfl, by kernel_rfl⟩⟩
instance : TInfo Try.prog 74 3 32 ([.string ⟨#[]⟩, .int .i64 0, .int .i64 0]) := ⟨⟨(Try.prog.info? 74).getD default, .agg ([.string ⟨#[]⟩, .int .i64 0, .int .i64 0]).toArray, by kernel_rfl, by kernel_rfl, by kernel_rfl, by kernel_rfl, by kernel_rfl, by kernel_rfl, by decide⟩⟩
instance : TAgg Try.prog 74 3 := ⟨fun w => ⟨by kernel_rfl, by kernel_rfl⟩⟩
instance : TField Try.prog 74 0 0 := ⟨fun w => ⟨(fsOf (Try.prog.underlying 74)), (fsOf (Try.prog.underlying 74)).getD 0 default, by kernel_rfl, by kernel_rfl, by kernel_rfl, by kernel_rfl, fun a => by kernel_rfl⟩⟩
instance : TField Try.prog 74 1 1 := ⟨fun w => ⟨(fsOf (Try.prog.underlying 74)), (fsOf (Try.prog.underlying 74)).getD 1 default, by kernel_rfl, by kernel_rfl, by kernel_rfl, by kernel_rfl, fun a => by kernel_rfl⟩⟩
instance : TField Try.prog 74 2 2 := ⟨fun w => ⟨(fsOf (Try.prog.underlying 74)), (fsOf (Try.prog.underlying 74)).getD 2 default, by kernel_rfl, by kernel_rfl, by kernel_rfl, by kernel_rfl, fun a => by kernel_rfl⟩⟩
instance : TPlaces Try.prog 74 [(0, 1), (1, 1), (2, 1)] ([.string ⟨#[]⟩, .int .i64 0, .int .i64 0]) := ⟨fun w => ⟨by kernel_rfl, (fsOf (Try.prog.underlying 74)), by kernel_rfl, by kernel_rfl⟩⟩
instance : TInfo Try.prog 75 4 48 ([.string ⟨#[]⟩, .int .i64 0, .int .i64 0, .string ⟨#[]⟩]) := ⟨⟨(Try.prog.info? 75).getD default, .agg ([.string ⟨#[]⟩, .int .i64 0, .int .i64 0, .string ⟨#[]⟩]).toArray, by kernel_rfl, by kernel_rfl, by kernel_rfl, by kernel_rfl, by kernel_rfl, by kernel_rfl, by decide⟩⟩
instance : TAgg Try.prog 75 4 := ⟨fun w => ⟨by kernel_rfl, by kernel_rfl⟩⟩
instance : TFieldAgg Try.prog 75 0 0 2 := ⟨fun w => ⟨(fsOf (Try.prog.underlying 75)), (fsOf (Try.prog.underlying 75)).getD 0 default, by kernel_rfl, by kernel_rfl, by kernel_rfl, by kernel_rfl, by kernel_rfl, fun a => by kernel_rfl⟩⟩
instance : TField Try.prog 75 1 2 := ⟨fun w => ⟨(fsOf (Try.prog.underlying 75)), (fsOf (Try.prog.underlying 75)).getD 1 default, by kernel_rfl, by kernel_rfl, by kernel_rfl, by kernel_rfl, fun a => by kernel_rfl⟩⟩
instance : TField Try.prog 75 2 3 := ⟨fun w => ⟨(fsOf (Try.prog.underlying 75)), (fsOf (Try.prog.underlying 75)).getD 2 default, by kernel_rfl, by kernel_rfl, by kernel_rfl, by kernel_rfl, fun a => by kernel_rfl⟩⟩
instance : TPlaces Try.prog 75 [(0, 2), (2, 1), (3, 1)] ([.string ⟨#[]⟩, .int .i64 0, .int .i64 0, .string ⟨#[]⟩]) := ⟨fun w => ⟨by kernel_rfl, (fsOf (Try.prog.underlying 75)), by kernel_rfl, by kernel_rfl⟩⟩
instance : TInfo Try.prog 79 9 104 ([.int .i64 0, .int .u64 0, .string ⟨#[]⟩, .string ⟨#[]⟩, .int .i64 0, .string ⟨#[]⟩, .int .u64 0, .int .i64 0, .string ⟨#[]⟩]) := ⟨⟨(Try.prog.info? 79).getD default, .agg ([.int .i64 0, .int .u64 0, .string ⟨#[]⟩, .string ⟨#[]⟩, .int .i64 0, .string ⟨#[]⟩, .int .u64 0, .int .i64 0, .string ⟨#[]⟩]).toArray, by kernel_rfl, by kernel_rfl, by kernel_rfl, by kernel_rfl, by kernel_rfl, by kernel_rfl, by decide⟩⟩
instance : TAgg Try.prog 79 9 := ⟨fun w => ⟨by kernel_rfl, by kernel_rfl⟩⟩
instance : TField Try.prog 79 0 0 := ⟨fun w => ⟨(fsOf (Try.prog.underlying 79)), (fsOf (Try.prog.underlying 79)).getD 0 default, by kernel_rfl, by kernel_rfl, by kernel_rfl, by kernel_rfl, fun a => by kernel_rfl⟩⟩
instance : TField Try.prog 79 1 1 := ⟨fun w => ⟨(fsOf (Try.prog.underlying 79)), (fsOf (Try.prog.underlying 79)).getD 1 default, by kernel_rfl, by kernel_rfl, by kernel_rfl, by kernel_rfl, fun a => by kernel_rfl⟩⟩
instance : TField Try.prog 79 2 2 := ⟨fun w => ⟨(fsOf (Try.prog.underlying 79)), (fsOf (Try.prog.underlying 79)).getD 2 default, by kernel_rfl, by kernel_rfl, by kernel_rfl, by kernel_rfl, fun a => by kernel_rfl⟩⟩
instance : TField Try.prog 79 3 3 := ⟨fun w => ⟨(fsOf (Try.prog.underlying 79)), (fsOf (Try.prog.underlying 79)).getD 3 default, by kernel_rfl, by kernel_rfl, by kernel_rfl, by kernel_rfl, fun a => by kernel_rfl⟩⟩
instance : TField Try.prog 79 4 4 := ⟨fun w => ⟨(fsOf (Try.prog.underlying 79)), (fsOf (Try.prog.underlying 79)).getD 4 default, by kernel_rfl, by kernel_rfl, by kernel_rfl, by kernel_rfl, fun a => by kernel_rfl⟩⟩
instance : TField Try.prog 79 5 5 := ⟨fun w => ⟨(fsOf (Try.prog.underlying 79)), (fsOf (Try.prog.underlying 79)).getD 5 default, by kernel_rfl, by kernel_rfl, by kernel_rfl, by kernel_rfl, fun a => by kernel_rfl⟩⟩
instance : TField Try.prog 79 6 6 := ⟨fun w => ⟨(fsOf (Try.prog.underlying 79)), (fsOf (Try.prog.underlying 79)).getD 6 default, by kernel_rfl, by kernel_rfl, by kernel_rfl, by kernel_rfl, fun a => by kernel_rfl⟩⟩
instance : TField Try.prog 79 7 7 := ⟨fun w => ⟨(fsOf (Try.prog.underlying 79)), (fsOf (Try.prog.underlying 79)).getD 7 default, by kernel_rfl, by kernel_rfl, by kernel_rfl, by kernel_rfl, fun a => by kernel_rfl⟩⟩
instance : TField Try.prog 79 8 8 := ⟨fun w => ⟨(fsOf (Try.prog.underlying 79)), (fsOf (Try.prog.underlying 79)).getD 8 default, by kernel_rfl, by kernel_rfl, by kernel_rfl, by kernel_rfl, fun a => by kernel_rfl⟩⟩
instance : TPlaces Try.prog 79 [(0, 1), (1, 1), (2, 1), (3, 1), (4, 1), (5, 1), (6, 1), (7, 1), (8, 1)] ([.int .i64 0, .int .u64 0, .string ⟨#[]⟩, .string ⟨#[]⟩, .int .i64 0, .string ⟨#[]⟩, .int .u64 0, .int .i64 0, .string ⟨#[]⟩]) := ⟨fun w => ⟨by kernel_rfl, (fsOf (Try.prog.underlying 79)), by kernel_rfl, by kernel_rfl⟩⟩
instance : TSlice Try.prog 84 5 := ⟨Try.underlying84⟩
instance : TInfo Try.prog 84 1 24 ([.slice none 0 0]) := ⟨⟨(Try.prog.info? 84).getD default, .slice none 0 0, by kernel_rfl, by kernel_rfl, by kernel_rfl, by kernel_rfl, by kernel_rfl, by kernel_rfl, by decide⟩⟩
instance : TCell Try.prog 84 := ⟨fun w => ⟨by kernel_rfl, by kernel_rfl⟩⟩
instance : TInfo Try.prog 88 2 24 ([.string ⟨#[]⟩, .int .i64 0]) := ⟨⟨(Try.prog.info? 88).getD default, .agg ([.string ⟨#[]⟩, .int .i64 0]).toArray, by kernel_rfl, by kernel_rfl, by kernel_rfl, by kernel_rfl, by kernel_rfl, by kernel_rfl, by decide⟩⟩
instance : TAgg Try.prog 88 2 := ⟨fun w => ⟨by kernel_rfl, by kernel_rfl⟩⟩
instance : TField Try.prog 88 0 0 := ⟨fun w => ⟨(fsOf (Try.prog.underlying 88)), (fsOf (Try.prog.underlying 88)).getD 0 default, by kernel_rfl, by kernel_rfl, by kernel_rfl, by kernel_rfl, fun a => by kernel_rfl⟩⟩
instance : TField Try.prog 88 1 1 := ⟨fun w => ⟨(fsOf (Try.prog.underlying 88)), (fsOf (Try.prog.underlying 88)).getD 1 default, by kernel_rfl, by kernel_rfl, by kernel_rfl, by kernel_rfl, fun a => by kernel_rfl⟩⟩
instance : TPlaces Try.prog 88 [(0, 1), (1, 1)] ([.string ⟨#[]⟩, .int .i64 0]) := ⟨fun w => ⟨by kernel_rfl, (fsOf (Try.prog.underlying 88)), by kernel_rfl, by kernel_rfl⟩⟩
instance : TMap Try.prog 91 53 4 := ⟨Try.underlying91⟩
instance : TInfo Try.prog 91 1 8 ([.map none]) := ⟨⟨(Try.prog.info? 91).getD default, .map none, by kernel_rfl, by kernel_rfl, by kernel_rfl, by kernel_rfl, by kernel_rfl, by kernel_rfl, by decide⟩⟩
instance : TCell Try.prog 91 := ⟨fun w => ⟨by kernel_rfl, by kernel_rfl⟩⟩
instance : TInfo Try.prog 99 8 88 ([.string ⟨#[]⟩, .int .u64 0, .int .u64 0, .int .u64 0, .int .u64 0, .string ⟨#[]⟩, .int .u64 0, .string ⟨#[]⟩]) := ⟨⟨(Try.prog.info? 99).getD default, .agg ([.string ⟨#[]⟩, .int .u64 0, .int .u64 0, .int .u64 0, .int .u64 0, .string ⟨#[]⟩, .int .u64 0, .string ⟨#[]⟩]).toArray, by kernel_rfl, by kernel_rfl, by kernel_rfl, by kernel_rfl, by kernel_rfl, by kernel_rfl, by decide⟩⟩
instance : TAgg Try.prog 99 8 := ⟨fun w => ⟨by kernel_rfl, by kernel_rfl⟩⟩
instance : TField Try.prog 99 0 0 := ⟨fun w => ⟨(fsOf (Try.prog.underlying 99)), (fsOf (Try.prog.underlying 99)).getD 0 default, by kernel_rfl, by kernel_rfl, by kernel_rfl, by kernel_rfl, fun a => by kernel_rfl⟩⟩
instance : TField Try.prog 99 1 1 := ⟨fun w => ⟨(fsOf (Try.prog.underlying 99)), (fsOf (Try.prog.underlying 99)).getD 1 default, by kernel_rfl, by kernel_rfl, by kernel_rfl, by kernel_rfl, fun a => by kernel_rfl⟩⟩
instance : TField Try.prog 99 2 2 := ⟨fun w => ⟨(fsOf (Try.prog.underlying 99)), (fsOf (Try.prog.underlying 99)).getD 2 default, by kernel_rfl, by kernel_rfl, by kernel_rfl, by kernel_rfl, fun a => by kernel_rfl⟩⟩
instance : TField Try.prog 99 3 3 := ⟨fun w => ⟨(fsOf (Try.prog.underlying 99)), (fsOf (Try.prog.underlying 99)).getD 3 default, by kernel_rfl, by kernel_rfl, by kernel_rfl, by kernel_rfl, fun a => by kernel_rfl⟩⟩
instance : TField Try.prog 99 4 4 := ⟨fun w => ⟨(fsOf (Try.prog.underlying 99)), (fsOf (Try.prog.underlying 99)).getD 4 default, by kernel_rfl, by kernel_rfl, by kernel_rfl, by kernel_rfl, fun a => by kernel_rfl⟩⟩
instance : TField Try.prog 99 5 5 := ⟨fun w => ⟨(fsOf (Try.prog.underlying 99)), (fsOf (Try.prog.underlying 99)).getD 5 default, by kernel_rfl, by kernel_rfl, by kernel_rfl, by kernel_rfl, fun a => by kernel_rfl⟩⟩
instance : TField Try.prog 99 6 6 := ⟨fun w => ⟨(fsOf (Try.prog.underlying 99)), (fsOf (Try.prog.underlying 99)).getD 6 default, by kernel_rfl, by kernel_rfl, by kernel_rfl, by kernel_rfl, fun a => by kernel_rfl⟩⟩
instance : TField Try.prog 99 7 7 := ⟨fun w => ⟨(fsOf (Try.prog.underlying 99)), (fsOf (Try.prog.underlying 99)).getD 7 default, by kernel_rfl, by kernel_rfl, by kernel_rfl, by kernel_rfl, fun a => by kernel_rfl⟩⟩
instance : TPlaces Try.prog 99 [(0, 1), (1, 1), (2, 1), (3, 1), (4, 1), (5, 1), (6, 1), (7, 1)] ([.string ⟨#[]⟩, .int .u64 0, .int .u64 0, .int .u64 0, .int .u64 0, .string ⟨#[]⟩, .int .u64 0, .string ⟨#[]⟩]) := ⟨fun w => ⟨by kernel_rfl, (fsOf (Try.prog.underlying 99)), by kernel_rfl, by kernel_rfl⟩⟩
instance : TInfo Try.prog 101 10 112 ([.string ⟨#[]⟩, .int .u64 0, .int .u64 0, .int .u64 0, .int .u64 0, .string ⟨#[]⟩, .int .u64 0, .string ⟨#[]⟩, .string ⟨#[]⟩, .int .u64 0]) := ⟨⟨(Try.prog.info? 101).getD default, .agg ([.string ⟨#[]⟩, .int .u64 0, .int .u64 0, .int .u64 0, .int .u64 0, .string ⟨#[]⟩, .int .u64 0, .string ⟨#[]⟩, .string ⟨#[]⟩, .int .u64 0]).toArray, by kernel_rfl, by kernel_rfl, by kernel_rfl, by kernel_rfl, by kernel_rfl, by kernel_rfl, by decide⟩⟩
instance : TAgg Try.prog 101 10 := ⟨fun w => ⟨by kernel_rfl, by kernel_rfl⟩⟩
instance : TFieldAgg Try.prog 101 0 0 8 := ⟨fun w => ⟨(fsOf (Try.prog.underlying 101)), (fsOf (Try.prog.underlying 101)).getD 0 default, by kernel_rfl, by kernel_rfl, by kernel_rfl, by kernel_rfl, by kernel_rfl, fun a => by kernel_rfl⟩⟩
instance : TField Try.prog 101 1 8 := ⟨fun w => ⟨(fsOf (Try.prog.underlying 101)), (fsOf (Try.prog.underlying 101)).getD 1 default, by kernel_rfl, by kernel_rfl, by kernel_rfl, by kernel_rfl, fun a => by kernel_rfl⟩⟩
instance : TField Try.prog 101 2 9 := ⟨fun w => ⟨(fsOf (Try.prog.underlying 101)), (fsOf (Try.prog.underlying 101)).getD 2 default, by kernel_rfl, by kernel_rfl, by kernel_rfl, by kernel_rfl, fun a => by kernel_rfl⟩⟩
instance : TPlaces Try.prog 101 [(0, 8), (8, 1), (9, 1)] ([.string ⟨#[]⟩, .int .u64 0, .int .u64 0, .int .u64 0, .int .u64 0, .string ⟨#[]⟩, .int .u64 0, .string ⟨#[]⟩, .string ⟨#[]⟩, .int .u64 0]) := ⟨fun w => ⟨by kernel_rfl, (fsOf (Try.prog.underlying 101)), by kernel_rfl, by kernel_rfl⟩⟩
instance : TPtr Try.prog 105 88 := ⟨Try.underlying105⟩
instance : TInfo Try.prog 105 1 8 ([.pointer none]) := ⟨⟨(Try.prog.info? 105).getD default, .pointer none, by kernel_rfl, by kernel_rfl, by kernel_rfl, by kernel_rfl, by kernel_rfl, by kernel_rfl, by decide⟩⟩
instance : TCell Try.prog 105 := ⟨fun w => ⟨by kernel_rfl, by kernel_rfl⟩⟩
instance : TSlice Try.prog 106 24 := ⟨Try.underlying106⟩
instance : TInfo Try.prog 106 1 24 ([.slice none 0 0]) := ⟨⟨(Try.prog.info? 106).getD default, .slice none 0 0, by kernel_rfl, by kernel_rfl, by kernel_rfl, by kernel_rfl, by kernel_rfl, by kernel_rfl, by decide⟩⟩
instance : TCell Try.prog 106 := ⟨fun w => ⟨by kernel_rfl, by kernel_rfl⟩⟩
instance : TInfo Try.prog 108 2 24 ([.string ⟨#[]⟩, .int .i64 0]) := ⟨⟨(Try.prog.info? 108).getD default, .agg ([.string ⟨#[]⟩, .int .i64 0]).toArray, by kernel_rfl, by kernel_rfl, by kernel_rfl, by kernel_rfl, by kernel_rfl, by kernel_rfl, by decide⟩⟩
instance : TAgg Try.prog 108 2 := ⟨fun w => ⟨by kernel_rfl, by kernel_rfl⟩⟩
instance : TField Try.prog 108 0 0 := ⟨fun w => ⟨(fsOf (Try.prog.underlying 108)), (fsOf (Try.prog.underlying 108)).getD 0 default, by kernel_rfl, by kernel_rfl, by kernel_rfl, by kernel_rfl, fun a => by kernel_rfl⟩⟩
instance : TField Try.prog 108 1 1 := ⟨fun w => ⟨(fsOf (Try.prog.underlying 108)), (fsOf (Try.prog.underlying 108)).getD 1 default, by kernel_rfl, by kernel_rfl, by kernel_rfl, by kernel_rfl, fun a => by kernel_rfl⟩⟩
instance : TPlaces Try.prog 108 [(0, 1), (1, 1)] ([.string ⟨#[]⟩, .int .i64 0]) := ⟨fun w => ⟨by kernel_rfl, (fsOf (Try.prog.underlying 108)), by kernel_rfl, by kernel_rfl⟩⟩
instance : TInt Try.prog 110 .u64 := ⟨Try.underlying110⟩
instance : TInfo Try.prog 110 1 8 ([.int .u64 0]) := ⟨⟨(Try.prog.info? 110).getD default, .int .u64 0, by kernel_rfl, by kernel_rfl, by kernel_rfl, by kernel_rfl, by kernel_rfl, by kernel_rfl, by decide⟩⟩
instance : TCell Try.prog 110 := ⟨fun w => ⟨by kernel_rfl, by kernel_rfl⟩⟩
instance : TInfo Try.prog 111 1 8 ([.nilFunc]) := ⟨⟨(Try.prog.info? 111).getD default, .nilFunc, by kernel_rfl, by kernel_rfl, by kernel_rfl, by kernel_rfl, by kernel_rfl, by kernel_rfl, by decide⟩⟩
instance : TCell Try.prog 111 := ⟨fun w => ⟨by kernel_rfl, by kernel_rfl⟩⟩
instance : TInfo Try.prog 113 1 8 ([.nilFunc]) := ⟨⟨(Try.prog.info? 113).getD default, .nilFunc, by kernel_rfl, by kernel_rfl, by kernel_rfl, by kernel_rfl, by kernel_rfl, by kernel_rfl, by decide⟩⟩
instance : TCell Try.prog 113 := ⟨fun w => ⟨by kernel_rfl, by kernel_rfl⟩⟩
instance : TInfo Try.prog 119 8 88 ([.string ⟨#[]⟩, .int .u64 0, .int .u64 0, .int .u64 0, .int .u64 0, .string ⟨#[]⟩, .int .u64 0, .string ⟨#[]⟩]) := ⟨⟨(Try.prog.info? 119).getD default, .agg ([.string ⟨#[]⟩, .int .u64 0, .int .u64 0, .int .u64 0, .int .u64 0, .string ⟨#[]⟩, .int .u64 0, .string ⟨#[]⟩]).toArray, by kernel_rfl, by kernel_rfl, by kernel_rfl, by kernel_rfl, by kernel_rfl, by kernel_rfl, by decide⟩⟩
instance : TAgg Try.prog 119 8 := ⟨fun w => ⟨by kernel_rfl, by kernel_rfl⟩⟩
instance : TField Try.prog 119 0 0 := ⟨fun w => ⟨(fsOf (Try.prog.underlying 119)), (fsOf (Try.prog.underlying 119)).getD 0 default, by kernel_rfl, by kernel_rfl, by kernel_rfl, by kernel_rfl, fun a => by kernel_rfl⟩⟩
instance : TField Try.prog 119 1 1 := ⟨fun w => ⟨(fsOf (Try.prog.underlying 119)), (fsOf (Try.prog.underlying 119)).getD 1 default, by kernel_rfl, by kernel_rfl, by kernel_rfl, by kernel_rfl, fun a => by kernel_rfl⟩⟩
instance : TField Try.prog 119 2 2 := ⟨fun w => ⟨(fsOf (Try.prog.underlying 119)), (fsOf (Try.prog.underlying 119)).getD 2 default, by kernel_rfl, by kernel_rfl, by kernel_rfl, by kernel_rfl, fun a => by kernel_rfl⟩⟩
instance : TField Try.prog 119 3 3 := ⟨fun w => ⟨(fsOf (Try.prog.underlying 119)), (fsOf (Try.prog.underlying 119)).getD 3 default, by kernel_rfl, by kernel_rfl, by kernel_rfl, by kernel_rfl, fun a => by kernel_rfl⟩⟩
instance : TField Try.prog 119 4 4 := ⟨fun w => ⟨(fsOf (Try.prog.underlying 119)), (fsOf (Try.prog.underlying 119)).getD 4 default, by kernel_rfl, by kernel_rfl, by kernel_rfl, by kernel_rfl, fun a => by kernel_rfl⟩⟩
instance : TField Try.prog 119 5 5 := ⟨fun w => ⟨(fsOf (Try.prog.underlying 119)), (fsOf (Try.prog.underlying 119)).getD 5 default, by kernel_rfl, by kernel_rfl, by kernel_rfl, by kernel_rfl, fun a => by kernel_rfl⟩⟩
instance : TField Try.prog 119 6 6 := ⟨fun w => ⟨(fsOf (Try.prog.underlying 119)), (fsOf (Try.prog.underlying 119)).getD 6 default, by kernel_rfl, by kernel_rfl, by kernel_rfl, by kernel_rfl, fun a => by kernel_rfl⟩⟩
instance : TField Try.prog 119 7 7 := ⟨fun w => ⟨(fsOf (Try.prog.underlying 119)), (fsOf (Try.prog.underlying 119)).getD 7 default, by kernel_rfl, by kernel_rfl, by kernel_rfl, by kernel_rfl, fun a => by kernel_rfl⟩⟩
instance : TPlaces Try.prog 119 [(0, 1), (1, 1), (2, 1), (3, 1), (4, 1), (5, 1), (6, 1), (7, 1)] ([.string ⟨#[]⟩, .int .u64 0, .int .u64 0, .int .u64 0, .int .u64 0, .string ⟨#[]⟩, .int .u64 0, .string ⟨#[]⟩]) := ⟨fun w => ⟨by kernel_rfl, (fsOf (Try.prog.underlying 119)), by kernel_rfl, by kernel_rfl⟩⟩
instance : TInfo Try.prog 121 10 112 ([.string ⟨#[]⟩, .int .u64 0, .int .u64 0, .int .u64 0, .int .u64 0, .string ⟨#[]⟩, .int .u64 0, .string ⟨#[]⟩, .string ⟨#[]⟩, .int .u64 0]) := ⟨⟨(Try.prog.info? 121).getD default, .agg ([.string ⟨#[]⟩, .int .u64 0, .int .u64 0, .int .u64 0, .int .u64 0, .string ⟨#[]⟩, .int .u64 0, .string ⟨#[]⟩, .string ⟨#[]⟩, .int .u64 0]).toArray, by kernel_rfl, by kernel_rfl, by kernel_rfl, by kernel_rfl, by kernel_rfl, by kernel_rfl, by decide⟩⟩
instance : TAgg Try.prog 121 10 := ⟨fun w => ⟨by kernel_rfl, by kernel_rfl⟩⟩
instance : TFieldAgg Try.prog 121 0 0 8 := ⟨fun w => ⟨(fsOf (Try.prog.underlying 121)), (fsOf (Try.prog.underlying 121)).getD 0 default, by kernel_rfl, by kernel_rfl, by kernel_rfl, by kernel_rfl, by kernel_rfl, fun a => by kernel_rfl⟩⟩
instance : TField Try.prog 121 1 8 := ⟨fun w => ⟨(fsOf (Try.prog.underlying 121)), (fsOf (Try.prog.underlying 121)).getD 1 default, by kernel_rfl, by kernel_rfl, by kernel_rfl, by kernel_rfl, fun a => by kernel_rfl⟩⟩
instance : TField Try.prog 121 2 9 := ⟨fun w => ⟨(fsOf (Try.prog.underlying 121)), (fsOf (Try.prog.underlying 121)).getD 2 default, by kernel_rfl, by kernel_rfl, by kernel_rfl, by kernel_rfl, fun a => by kernel_rfl⟩⟩
instance : TPlaces Try.prog 121 [(0, 8), (8, 1), (9, 1)] ([.string ⟨#[]⟩, .int .u64 0, .int .u64 0, .int .u64 0, .int .u64 0, .string ⟨#[]⟩, .int .u64 0, .string ⟨#[]⟩, .string ⟨#[]⟩, .int .u64 0]) := ⟨fun w => ⟨by kernel_rfl, (fsOf (Try.prog.underlying 121)), by kernel_rfl, by kernel_rfl⟩⟩
instance : TSlice Try.prog 125 9 := ⟨Try.underlying125⟩
instance : TInfo Try.prog 125 1 24 ([.slice none 0 0]) := ⟨⟨(Try.prog.info? 125).getD default, .slice none 0 0, by kernel_rfl, by kernel_rfl, by kernel_rfl, by kernel_rfl, by kernel_rfl, by kernel_rfl, by decide⟩⟩
instance : TCell Try.prog 125 := ⟨fun w => ⟨by kernel_rfl, by kernel_rfl⟩⟩
instance : TInfo Try.prog 136 1 8 ([.nilFunc]) := ⟨⟨(Try.prog.info? 136).getD default, .nilFunc, by kernel_rfl, by kernel_rfl, by kernel_rfl, by kernel_rfl, by kernel_rfl, by kernel_rfl, by decide⟩⟩
instance : TCell Try.prog 136 := ⟨fun w => ⟨by kernel_rfl, by kernel_rfl⟩⟩
instance : TPtr Try.prog 143 150 := ⟨Try.underlying143⟩
instance : TInfo Try.prog 143 1 8 ([.pointer none]) := ⟨⟨(Try.prog.info? 143).getD default, .pointer none, by kernel_rfl, by kernel_rfl, by kernel_rfl, by kernel_rfl, by kernel_rfl, by kernel_rfl, by decide⟩⟩
instance : TCell Try.prog 143 := ⟨fun w => ⟨by kernel_rfl, by kernel_rfl⟩⟩
instance : TInt Try.prog 145 .u32 := ⟨Try.underlying145⟩
instance : TInfo Try.prog 145 1 4 ([.int .u32 0]) := ⟨⟨(Try.prog.info? 145).getD default, .int .u32 0, by kernel_rfl, by kernel_rfl, by kernel_rfl, by kernel_rfl, by kernel_rfl, by kernel_rfl, by decide⟩⟩
instance : TCell Try.prog 145 := ⟨fun w => ⟨by kernel_rfl, by kernel_rfl⟩⟩
instance : TArr Try.prog 146 8 145 := ⟨Try.underlying146⟩
instance : TInfo Try.prog 146 8 32 (List.replicate 8 (.int .u32 0)) := ⟨⟨(Try.prog.info? 146).getD default, .agg (List.replicate 8 (.int .u32 0)).toArray, by kernel_rfl, by kernel_rfl, by kernel_rfl, by kernel_rfl, by kernel_rfl, by kernel_rfl, by decide⟩⟩
instance : TAgg Try.prog 146 8 := ⟨fun w => ⟨by kernel_rfl, by kernel_rfl⟩⟩
instance : TArr Try.prog 147 8 145 := ⟨Try.underlying147⟩
instance : TInfo Try.prog 147 8 32 (List.replicate 8 (.int .u32 0)) := ⟨⟨(Try.prog.info? 147).getD default, .agg (List.replicate 8 (.int .u32 0)).toArray, by kernel_rfl, by kernel_rfl, by kernel_rfl, by kernel_rfl, by kernel_rfl, by kernel_rfl, by decide⟩⟩
instance : TAgg Try.prog 147 8 := ⟨fun w => ⟨by kernel_rfl, by kernel_rfl⟩⟩
instance : TInfo Try.prog 150 10 56 ([.int .u32 0, .int .u32 0, .int .u32 0, .int .u32 0, .int .u32 0, .int .u32 0, .int .u32 0, .int .u32 0, .string ⟨#[]⟩, .int .i64 0]) := ⟨⟨(Try.prog.info? 150).getD default, .agg ([.int .u32 0, .int .u32 0, .int .u32 0, .int .u32 0, .int .u32 0, .int .u32 0, .int .u32 0, .int .u32 0, .string ⟨#[]⟩, .int .i64 0]).toArray, by kernel_rfl, by kernel_rfl, by kernel_rfl, by kernel_rfl, by kernel_rfl, by kernel_rfl, by decide⟩⟩
instance : TAgg Try.prog 150 10 := ⟨fun w => ⟨by kernel_rfl, by kernel_rfl⟩⟩
instance : TFieldAgg Try.prog 150 0 0 8 := ⟨fun w => ⟨(fsOf (Try.prog.underlying 150)), (fsOf (Try.prog.underlying 150)).getD 0 default, by kernel_rfl, by kernel_rfl, by kernel_rfl, by kernel_rfl, by kernel_rfl, fun a => by kernel_rfl⟩⟩
instance : TField Try.prog 150 1 8 := ⟨fun w => ⟨(fsOf (Try.prog.underlying 150)), (fsOf (Try.prog.underlying 150)).getD 1 default, by kernel_rfl, by kernel_rfl, by kernel_rfl, by kernel_rfl, fun a => by kernel_rfl⟩⟩
instance : TField Try.prog 150 2 9 := ⟨fun w => ⟨(fsOf (Try.prog.underlying 150)), (fsOf (Try.prog.underlying 150)).getD 2 default, by kernel_rfl, by kernel_rfl, by kernel_rfl, by kernel_rfl, fun a => by kernel_rfl⟩⟩
instance : TPlaces Try.prog 150 [(0, 8), (8, 1), (9, 1)] ([.int .u32 0, .int .u32 0, .int .u32 0, .int .u32 0, .int .u32 0, .int .u32 0, .int .u32 0, .int .u32 0, .string ⟨#[]⟩, .int .i64 0]) := ⟨fun w => ⟨by kernel_rfl, (fsOf (Try.prog.underlying 150)), by kernel_rfl, by kernel_rfl⟩⟩
instance : TPtr Try.prog 151 147 := ⟨Try.underlying151⟩
instance : TInfo Try.prog 151 1 8 ([.pointer none]) := ⟨⟨(Try.prog.info? 151).getD default, .pointer none, by kernel_rfl, by kernel_rfl, by kernel_rfl, by kernel_rfl, by kernel_rfl, by kernel_rfl, by decide⟩⟩
instance : TCell Try.prog 151 := ⟨fun w => ⟨by kernel_rfl, by kernel_rfl⟩⟩
instance : TPtr Try.prog 152 156 := ⟨Try.underlying152⟩
instance : TInfo Try.prog 152 1 8 ([.pointer none]) := ⟨⟨(Try.prog.info? 152).getD default, .pointer none, by kernel_rfl, by kernel_rfl, by kernel_rfl, by kernel_rfl, by kernel_rfl, by kernel_rfl, by decide⟩⟩
instance : TCell Try.prog 152 := ⟨fun w => ⟨by kernel_rfl, by kernel_rfl⟩⟩
instance : TArr Try.prog 156 64 145 := ⟨Try.underlying156⟩
instance : TInfo Try.prog 156 64 256 (List.replicate 64 (.int .u32 0)) := ⟨⟨(Try.prog.info? 156).getD default, .agg (List.replicate 64 (.int .u32 0)).toArray, by kernel_rfl, by kernel_rfl, by kernel_rfl, by kernel_rfl, by kernel_rfl, by kernel_rfl, by decide⟩⟩
instance : TAgg Try.prog 156 64 := ⟨fun w => ⟨by kernel_rfl, by kernel_rfl⟩⟩
instance : HasBody Try.prog 3 := ⟨Try.call3⟩
instance : HasBody Try.prog 4 := ⟨Try.call4⟩
instance : HasBody Try.prog 5 := ⟨Try.call5⟩
instance : HasBody Try.prog 6 := ⟨Try.call6⟩
instance : HasBody Try.prog 7 := ⟨Try.call7⟩
instance : HasBody Try.prog 8 := ⟨Try.call8⟩
instance : HasBody Try.prog 9 := ⟨Try.call9⟩
instance : HasBody Try.prog 10 := ⟨Try.call10⟩
instance : HasBody Try.prog 11 := ⟨Try.call11⟩
instance : HasBody Try.prog 12 := ⟨Try.call12⟩
instance : HasBody Try.prog 13 := ⟨Try.call13⟩
instance : HasBody Try.prog 14 := ⟨Try.call14⟩
instance : HasBody Try.prog 15 := ⟨Try.call15⟩
instance : HasBody Try.prog 16 := ⟨Try.call16⟩
instance : HasBody Try.prog 17 := ⟨Try.call17⟩
instance : HasBody Try.prog 18 := ⟨Try.call18⟩
instance : HasBody Try.prog 19 := ⟨Try.call19⟩
instance : HasBody Try.prog 20 := ⟨Try.call20⟩
instance : HasBody Try.prog 21 := ⟨Try.call21⟩
instance : HasBody Try.prog 22 := ⟨Try.call22⟩
instance : HasBody Try.prog 23 := ⟨Try.call23⟩
instance : HasBody Try.prog 24 := ⟨Try.call24⟩
instance : HasBody Try.prog 25 := ⟨Try.call25⟩
instance : HasBody Try.prog 26 := ⟨Try.call26⟩
instance : HasBody Try.prog 27 := ⟨Try.call27⟩
instance : HasBody Try.prog 28 := ⟨Try.call28⟩
instance : HasBody Try.prog 29 := ⟨Try.call29⟩
instance : HasBody Try.prog 30 := ⟨Try.call30⟩
instance : HasBody Try.prog 31 := ⟨Try.call31⟩
instance : HasBody Try.prog 32 := ⟨Try.call32⟩
instance : HasBody Try.prog 33 := ⟨Try.call33⟩
instance : HasBody Try.prog 34 := ⟨Try.call34⟩
instance : HasBody Try.prog 35 := ⟨Try.call35⟩
instance : HasBody Try.prog 36 := ⟨Try.call36⟩
instance : HasBody Try.prog 37 := ⟨Try.call37⟩
instance : HasBody Try.prog 38 := ⟨Try.call38⟩
instance : HasBody Try.prog 39 := ⟨Try.call39⟩
instance : HasBody Try.prog 40 := ⟨Try.call40⟩
instance : HasBody Try.prog 41 := ⟨Try.call41⟩
instance : HasBody Try.prog 42 := ⟨Try.call42⟩
instance : HasBody Try.prog 43 := ⟨Try.call43⟩
instance : HasBody Try.prog 44 := ⟨Try.call44⟩
instance : HasBody Try.prog 45 := ⟨Try.call45⟩
instance : HasBody Try.prog 46 := ⟨Try.call46⟩
instance : HasBody Try.prog 47 := ⟨Try.call47⟩
instance : HasBody Try.prog 48 := ⟨Try.call48⟩
instance : HasBody Try.prog 49 := ⟨Try.call49⟩
instance : HasBody Try.prog 50 := ⟨Try.call50⟩
instance : HasBody Try.prog 51 := ⟨Try.call51⟩
instance : HasBody Try.prog 52 := ⟨Try.call52⟩
instance : HasBody Try.prog 53 := ⟨Try.call53⟩
instance : HasBody Try.prog 54 := ⟨Try.call54⟩
instance : HasBody Try.prog 55 := ⟨Try.call55⟩
instance : HasBody Try.prog 56 := ⟨Try.call56⟩
instance : HasBody Try.prog 57 := ⟨Try.call57⟩
instance : HasBody Try.prog 58 := ⟨Try.call58⟩
instance : HasBody Try.prog 59 := ⟨Try.call59⟩
instance : HasBody Try.prog 60 := ⟨Try.call60⟩
instance : HasBody Try.prog 61 := ⟨Try.call61⟩
instance : HasBody Try.prog 62 := ⟨Try.call62⟩
instance : HasBody Try.prog 63 := ⟨Try.call63⟩
instance : HasBody Try.prog 64 := ⟨Try.call64⟩
instance : HasBody Try.prog 65 := ⟨Try.call65⟩
instance : HasBody Try.prog 66 := ⟨Try.call66⟩
instance : HasBody Try.prog 67 := ⟨Try.call67⟩
instance : HasBody Try.prog 68 := ⟨Try.call68⟩
instance : HasBody Try.prog 69 := ⟨Try.call69⟩
instance : HasBody Try.prog 70 := ⟨Try.call70⟩
instance : HasBody Try.prog 71 := ⟨Try.call71⟩
instance : HasBody Try.prog 72 := ⟨Try.call72⟩
instance : HasBody Try.prog 73 := ⟨Try.call73⟩
instance : HasBody Try.prog 74 := ⟨Try.call74⟩
instance : HasBody Try.prog 75 := ⟨Try.call75⟩
instance : HasBody Try.prog 76 := ⟨Try.call76⟩
instance : HasBody Try.prog 77 := ⟨Try.call77⟩
instance : HasBody Try.prog 78 := ⟨Try.call78⟩
instance : HasBody Try.prog 79 := ⟨Try.call79⟩
instance : HasBody Try.prog 80 := ⟨Try.call80⟩
instance : HasBody Try.prog 81 := ⟨Try.call81⟩
instance : HasBody Try.prog 82 := ⟨Try.call82⟩
instance : HasBody Try.prog 83 := ⟨Try.call83⟩
instance : HasBody Try.prog 84 := ⟨Try.call84⟩
instance : HasBody Try.prog 85 := ⟨Try.call85⟩
instance : HasBody Try.prog 86 := ⟨Try.call86⟩
instance : HasBody Try.prog 87 := ⟨Try.call87⟩
instance : HasBody Try.prog 88 := ⟨Try.call88⟩
instance : HasBody Try.prog 89 := ⟨Try.call89⟩
instance : HasBody Try.prog 90 := ⟨Try.call90⟩
instance : HasBody Try.prog 91 := ⟨Try.call91⟩
instance : HasBody Try.prog 92 := ⟨Try.call92⟩
instance : HasBody Try.prog 93 := ⟨Try.call93⟩
instance : HasBody Try.prog 94 := ⟨Try.call94⟩
instance : HasBody Try.prog 95 := ⟨Try.call95⟩
instance : HasBody Try.prog 96 := ⟨Try.call96⟩
instance : HasBody Try.prog 97 := ⟨Try.call97⟩
instance : HasBody Try.prog 98 := ⟨Try.call98⟩
instance : HasBody Try.prog 99 := ⟨Try.call99⟩
instance : HasBody Try.prog 100 := ⟨Try.call100⟩
instance : HasBody Try.prog 101 := ⟨Try.call101⟩
instance : HasBody Try.prog 102 := ⟨Try.call102⟩
instance : HasBody Try.prog 103 := ⟨Try.call103⟩
instance : HasBody Try.prog 104 := ⟨Try.call104⟩
instance : HasBody Try.prog 105 := ⟨Try.call105⟩
instance : HasBody Try.prog 106 := ⟨Try.call106⟩
instance : HasBody Try.prog 107 := ⟨Try.call107⟩
instance : HasBody Try.prog 108 := ⟨Try.call108⟩
end Go.Proofs.Ytamlleachfngeaa
