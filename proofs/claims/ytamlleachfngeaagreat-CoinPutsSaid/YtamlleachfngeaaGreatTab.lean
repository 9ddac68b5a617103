/- The types and functions of this translation, as instances for the calculus. Written by program. -/
import Derived.Test.YtamlleachfngeaaGreatChecked
import Derived.Test.YtamlleachfngeaaGreatJf
namespace Go.Proofs.YtamlleachfngeaaGreat
set_option maxRecDepth 100000
instance : Mixed Tryz.prog := ⟨by kernel_rfl⟩
instance : TInt Tryz.prog 3 .i64 := ⟨Tryz.underlying3⟩
instance : TInfo Tryz.prog 3 1 8 ([.int .i64 0]) := ⟨⟨(Tryz.prog.info? 3).getD default, .int .i64 0, by kernel_rfl, by kernel_rfl, by kernel_rfl, by kernel_rfl, by kernel_rfl, by kernel_rfl, by decide⟩⟩
instance : TCell Tryz.prog 3 := ⟨fun w => ⟨by kernel_rfl, by kernel_rfl⟩⟩
instance : TBool Tryz.prog 4 := ⟨Tryz.underlying4⟩
instance : TInfo Tryz.prog 4 1 1 ([.bool false]) := ⟨⟨(Tryz.prog.info? 4).getD default, .bool false, by kernel_rfl, by kernel_rfl, by kernel_rfl, by kernel_rfl, by kernel_rfl, by kernel_rfl, by decide⟩⟩
instance : TCell Tryz.prog 4 := ⟨fun w => ⟨by kernel_rfl, by kernel_rfl⟩⟩
instance : TInt Tryz.prog 5 .u8 := ⟨Tryz.underlying5⟩
instance : TInfo Tryz.prog 5 1 1 ([.int .u8 0]) := ⟨⟨(Tryz.prog.info? 5).getD default, .int .u8 0, by kernel_rfl, by kernel_rfl, by kernel_rfl, by kernel_rfl, by kernel_rfl, by kernel_rfl, by decide⟩⟩
instance : TCell Tryz.prog 5 := ⟨fun w => ⟨by kernel_rfl, by kernel_rfl⟩⟩
instance : TStr Tryz.prog 9 := ⟨Tryz.underlying9⟩
instance : TInfo Tryz.prog 9 1 16 ([.string ⟨#[]⟩]) := ⟨⟨(Tryz.prog.info? 9).getD default, .string ⟨#[]⟩, by kernel_rfl, by kernel_rfl, by kernel_rfl, by kernel_rfl, by kernel_rfl, by kernel_rfl, by decide⟩⟩
instance : TCell Tryz.prog 9 := ⟨fun w => ⟨by kernel_rfl, by kernel_rfl⟩⟩
instance : TSlice Tryz.prog 22 53 := ⟨Tryz.underlying22⟩
instance : TInfo Tryz.prog 22 1 24 ([.slice none 0 0]) := ⟨⟨(Tryz.prog.info? 22).getD default, .slice none 0 0, by kernel_rfl, by kernel_rfl, by kernel_rfl, by kernel_rfl, by kernel_rfl, by kernel_rfl, by decide⟩⟩
instance : TCell Tryz.prog 22 := ⟨fun w => ⟨by kernel_rfl, by kernel_rfl⟩⟩
instance : TSlice Tryz.prog 23 47 := ⟨Tryz.underlying23⟩
instance : TInfo Tryz.prog 23 1 24 ([.slice none 0 0]) := ⟨⟨(Tryz.prog.info? 23).getD default, .slice none 0 0, by kernel_rfl, by kernel_rfl, by kernel_rfl, by kernel_rfl, by kernel_rfl, by kernel_rfl, by decide⟩⟩
instance : TCell Tryz.prog 23 := ⟨fun w => ⟨by kernel_rfl, by kernel_rfl⟩⟩
instance : TInt Tryz.prog 24 .u64 := ⟨Tryz.underlying24⟩
instance : TInfo Tryz.prog 24 1 8 ([.int .u64 0]) := ⟨⟨(Tryz.prog.info? 24).getD default, .int .u64 0, by kernel_rfl, by kernel_rfl, by kernel_rfl, by kernel_rfl, by kernel_rfl, by kernel_rfl, by decide⟩⟩
instance : TCell Tryz.prog 24 := ⟨fun w => ⟨by kernel_rfl, by kernel_rfl⟩⟩
instance : TSlice Tryz.prog 25 77 := ⟨Tryz.underlying25⟩
instance : TInfo Tryz.prog 25 1 24 ([.slice none 0 0]) := ⟨⟨(Tryz.prog.info? 25).getD default, .slice none 0 0, by kernel_rfl, by kernel_rfl, by kernel_rfl, by kernel_rfl, by kernel_rfl, by kernel_rfl, by decide⟩⟩
instance : TCell Tryz.prog 25 := ⟨fun w => ⟨by kernel_rfl, by kernel_rfl⟩⟩
instance : TInfo Tryz.prog 27 4 64 ([.int .u64 0, .string ⟨#[]⟩, .string ⟨#[]⟩, .slice none 0 0]) := ⟨⟨(Tryz.prog.info? 27).getD default, .agg ([.int .u64 0, .string ⟨#[]⟩, .string ⟨#[]⟩, .slice none 0 0]).toArray, by kernel_rfl, by kernel_rfl, by kernel_rfl, by kernel_rfl, by kernel_rfl, by kernel_rfl, by decide⟩⟩
instance : TAgg Tryz.prog 27 4 := ⟨fun w => ⟨by kernel_rfl, by kernel_rfl⟩⟩
instance : TField Tryz.prog 27 0 0 := ⟨fun w => ⟨(fsOf (Tryz.prog.underlying 27)), (fsOf (Tryz.prog.underlying 27)).getD 0 default, by kernel_rfl, by kernel_rfl, by kernel_rfl, by kernel_rfl, fun a => by kernel_rfl⟩⟩
instance : TField Tryz.prog 27 1 1 := ⟨fun w => ⟨(fsOf (Tryz.prog.underlying 27)), (fsOf (Tryz.prog.underlying 27)).getD 1 default, by kernel_rfl, by kernel_rfl, by kernel_rfl, by kernel_rfl, fun a => by kernel_rfl⟩⟩
instance : TField Tryz.prog 27 2 2 := ⟨fun w => ⟨(fsOf (Tryz.prog.underlying 27)), (fsOf (Tryz.prog.underlying 27)).getD 2 default, by kernel_rfl, by kernel_rfl, by kernel_rfl, by kernel_rfl, fun a => by kernel_rfl⟩⟩
instance : TField Tryz.prog 27 3 3 := ⟨fun w => ⟨(fsOf (Tryz.prog.underlying 27)), (fsOf (Tryz.prog.underlying 27)).getD 3 default, by kernel_rfl, by kernel_rfl, by kernel_rfl, by kernel_rfl, fun a => by kernel_rfl⟩⟩
instance : TPlaces Tryz.prog 27 [(0, 1), (1, 1), (2, 1), (3, 1)] ([.int .u64 0, .string ⟨#[]⟩, .string ⟨#[]⟩, .slice none 0 0]) := ⟨fun w => ⟨by kernel_rfl, (fsOf (Tryz.prog.underlying 27)), by kernel_rfl, by kernel_rfl⟩⟩
instance : TInfo Tryz.prog 29 6 112 ([.slice none 0 0, .slice none 0 0, .int .u64 0, .string ⟨#[]⟩, .string ⟨#[]⟩, .slice none 0 0]) := ⟨⟨(Tryz.prog.info? 29).getD default, .agg ([.slice none 0 0, .slice none 0 0, .int .u64 0, .string ⟨#[]⟩, .string ⟨#[]⟩, .slice none 0 0]).toArray, by kernel_rfl, by kernel_rfl, by kernel_rfl, by kernel_rfl, by kernel_rfl, by kernel_rfl, by decide⟩⟩
instance : TAgg Tryz.prog 29 6 := ⟨fun w => ⟨by kernel_rfl, by kernel_rfl⟩⟩
instance : TField Tryz.prog 29 0 0 := ⟨fun w => ⟨(fsOf (Tryz.prog.underlying 29)), (fsOf (Tryz.prog.underlying 29)).getD 0 default, by kernel_rfl, by kernel_rfl, by kernel_rfl, by kernel_rfl, fun a => by kernel_rfl⟩⟩
instance : TField Tryz.prog 29 1 1 := ⟨fun w => ⟨(fsOf (Tryz.prog.underlying 29)), (fsOf (Tryz.prog.underlying 29)).getD 1 default, by kernel_rfl, by kernel_rfl, by kernel_rfl, by kernel_rfl, fun a => by kernel_rfl⟩⟩
instance : TFieldAgg Tryz.prog 29 2 2 4 := ⟨fun w => ⟨(fsOf (Tryz.prog.underlying 29)), (fsOf (Tryz.prog.underlying 29)).getD 2 default, by kernel_rfl, by kernel_rfl, by kernel_rfl, by kernel_rfl, by kernel_rfl, fun a => by kernel_rfl⟩⟩
instance : TPlaces Tryz.prog 29 [(0, 1), (1, 1), (2, 4)] ([.slice none 0 0, .slice none 0 0, .int .u64 0, .string ⟨#[]⟩, .string ⟨#[]⟩, .slice none 0 0]) := ⟨fun w => ⟨by kernel_rfl, (fsOf (Tryz.prog.underlying 29)), by kernel_rfl, by kernel_rfl⟩⟩
instance : TInfo Tryz.prog 31 2 24 ([.string ⟨#[]⟩, .int .i64 0]) := ⟨⟨(Tryz.prog.info? 31).getD default, .agg ([.string ⟨#[]⟩, .int .i64 0]).toArray, by kernel_rfl, by kernel_rfl, by kernel_rfl, by kernel_rfl, by kernel_rfl, by kernel_rfl, by decide⟩⟩
instance : TAgg Tryz.prog 31 2 := ⟨fun w => ⟨by kernel_rfl, by kernel_rfl⟩⟩
instance : TField Tryz.prog 31 0 0 := ⟨fun w => ⟨(fsOf (Tryz.prog.underlying 31)), (fsOf (Tryz.prog.underlying 31)).getD 0 default, by kernel_rfl, by kernel_rfl, by kernel_rfl, by kernel_rfl, fun a => by kernel_rfl⟩⟩
instance : TField Tryz.prog 31 1 1 := ⟨fun w => ⟨(fsOf (Tryz.prog.underlying 31)), (fsOf (Tryz.prog.underlying 31)).getD 1 default, by kernel_rfl, by kernel_rfl, by kernel_rfl, by kernel_rfl, fun a => by kernel_rfl⟩⟩
instance : TPlaces Tryz.prog 31 [(0, 1), (1, 1)] ([.string ⟨#[]⟩, .int .i64 0]) := ⟨fun w => ⟨by kernel_rfl, (fsOf (Tryz.prog.underlying 31)), by kernel_rfl, by kernel_rfl⟩⟩
instance : TInt Tryz.prog 33 .i64 := ⟨Tryz.underlying33⟩
instance : TInfo Tryz.prog 33 1 8 ([.int .i64 0]) := ⟨⟨(Tryz.prog.info? 33).getD default, .int .i64 0, by kernel_rfl, by kernel_rfl, by kernel_rfl, by kernel_rfl, by kernel_rfl, by kernel_rfl, by decide⟩⟩
instance : TCell Tryz.prog 33 := ⟨fun w => ⟨by kernel_rfl, by kernel_rfl⟩⟩
instance : TSlice Tryz.prog 37 68 := ⟨Tryz.underlying37⟩
instance : TInfo Tryz.prog 37 1 24 ([.slice none 0 0]) := ⟨⟨(Tryz.prog.info? 37).getD default, .slice none 0 0, by kernel_rfl, by kernel_rfl, by kernel_rfl, by kernel_rfl, by kernel_rfl, by kernel_rfl, by decide⟩⟩
instance : TCell Tryz.prog 37 := ⟨fun w => ⟨by kernel_rfl, by kernel_rfl⟩⟩
instance : TSlice Tryz.prog 38 49 := ⟨Tryz.underlying38⟩
instance : TInfo Tryz.prog 38 1 24 ([.slice none 0 0]) := ⟨⟨(Tryz.prog.info? 38).getD default, .slice none 0 0, by kernel_rfl, by kernel_rfl, by kernel_rfl, by kernel_rfl, by kernel_rfl, by kernel_rfl, by decide⟩⟩
instance : TCell Tryz.prog 38 := ⟨fun w => ⟨by kernel_rfl, by kernel_rfl⟩⟩
instance : TSlice Tryz.prog 39 110 := ⟨Tryz.underlying39⟩
instance : TInfo Tryz.prog 39 1 24 ([.slice none 0 0]) := ⟨⟨(Tryz.prog.info? 39).getD default, .slice none 0 0, by kernel_rfl, by kernel_rfl, by kernel_rfl, by kernel_rfl, by kernel_rfl, by kernel_rfl, by decide⟩⟩
instance : TCell Tryz.prog 39 := ⟨fun w => ⟨by kernel_rfl, by kernel_rfl⟩⟩
instance : TInfo Tryz.prog 41 4 64 ([.int .u64 0, .string ⟨#[]⟩, .string ⟨#[]⟩, .slice none 0 0]) := ⟨⟨(Tryz.prog.info? 41).getD default, .agg ([.int .u64 0, .string ⟨#[]⟩, .string ⟨#[]⟩, .slice none 0 0]).toArray, by kernel_rfl, by kernel_rfl, by kernel_rfl, by kernel_rfl, by kernel_rfl, by kernel_rfl, by decide⟩⟩
instance : TAgg Tryz.prog 41 4 := ⟨fun w => ⟨by kernel_rfl, by kernel_rfl⟩⟩
instance : TField Tryz.prog 41 0 0 := ⟨fun w => ⟨(fsOf (Tryz.prog.underlying 41)), (fsOf (Tryz.prog.underlying 41)).getD 0 default, by kernel_rfl, by kernel_rfl, by kernel_rfl, by kernel_rfl, fun a => by kernel_rfl⟩⟩
instance : TField Tryz.prog 41 1 1 := ⟨fun w => ⟨(fsOf (Tryz.prog.underlying 41)), (fsOf (Tryz.prog.underlying 41)).getD 1 default, by kernel_rfl, by kernel_rfl, by kernel_rfl, by kernel_rfl, fun a => by kernel_rfl⟩⟩
instance : TField Tryz.prog 41 2 2 := ⟨fun w => ⟨(fsOf (Tryz.prog.underlying 41)), (fsOf (Tryz.prog.underlying 41)).getD 2 default, by kernel_rfl, by kernel_rfl, by kernel_rfl, by kernel_rfl, fun a => by kernel_rfl⟩⟩
instance : TField Tryz.prog 41 3 3 := ⟨fun w => ⟨(fsOf (Tryz.prog.underlying 41)), (fsOf (Tryz.prog.underlying 41)).getD 3 default, by kernel_rfl, by kernel_rfl, by kernel_rfl, by kernel_rfl, fun a => by kernel_rfl⟩⟩
instance : TPlaces Tryz.prog 41 [(0, 1), (1, 1), (2, 1), (3, 1)] ([.int .u64 0, .string ⟨#[]⟩, .string ⟨#[]⟩, .slice none 0 0]) := ⟨fun w => ⟨by kernel_rfl, (fsOf (Tryz.prog.underlying 41)), by kernel_rfl, by kernel_rfl⟩⟩
instance : TInfo Tryz.prog 43 6 112 ([.slice none 0 0, .slice none 0 0, .int .u64 0, .string ⟨#[]⟩, .string ⟨#[]⟩, .slice none 0 0]) := ⟨⟨(Tryz.prog.info? 43).getD default, .agg ([.slice none 0 0, .slice none 0 0, .int .u64 0, .string ⟨#[]⟩, .string ⟨#[]⟩, .slice none 0 0]).toArray, by kernel_rfl, by kernel_rfl, by kernel_rfl, by kernel_rfl, by kernel_rfl, by kernel_rfl, by decide⟩⟩
instance : TAgg Tryz.prog 43 6 := ⟨fun w => ⟨by kernel_rfl, by kernel_rfl⟩⟩
instance : TField Tryz.prog 43 0 0 := ⟨fun w => ⟨(fsOf (Tryz.prog.underlying 43)), (fsOf (Tryz.prog.underlying 43)).getD 0 default, by kernel_rfl, by kernel_rfl, by kernel_rfl, by kernel_rfl, fun a => by kernel_rfl⟩⟩
instance : TField Tryz.prog 43 1 1 := ⟨fun w => ⟨(fsOf (Tryz.prog.underlying 43)), (fsOf (Tryz.prog.underlying 43)).getD 1 default, by kernel_rfl, by kernel_rfl, by kernel_rfl, by kernel_rfl, fun a => by kernel_rfl⟩⟩
instance : TFieldAgg Tryz.prog 43 2 2 4 := ⟨fun w => ⟨(fsOf (Tryz.prog.underlying 43)), (fsOf (Tryz.prog.underlying 43)).getD 2 default, by kernel_rfl, by kernel_rfl, by kernel_rfl, by kernel_rfl, by kernel_rfl, fun a => by kernel_rfl⟩⟩
instance : TPlaces Tryz.prog 43 [(0, 1), (1, 1), (2, 4)] ([.slice none 0 0, .slice none 0 0, .int .u64 0, .string ⟨#[]⟩, .string ⟨#[]⟩, .slice none 0 0]) := ⟨fun w => ⟨by kernel_rfl, (fsOf (Tryz.prog.underlying 43)), by kernel_rfl, by kernel_rfl⟩⟩
instance : TInfo Tryz.prog 45 1 8 ([.nilFunc]) := ⟨⟨(Tryz.prog.info? 45).getD default, .nilFunc, by kernel_rfl, by kernel_rfl, by kernel_rfl, by kernel_rfl, by kernel_rfl, by kernel_rfl, by decide⟩⟩
instance : TCell Tryz.prog 45 := ⟨fun w => ⟨by kernel_rfl, by kernel_rfl⟩⟩
instance : TInfo Tryz.prog 47 9 104 ([.int .i64 0, .int .u64 0, .string ⟨#[]⟩, .string ⟨#[]⟩, .int .i64 0, .string ⟨#[]⟩, .int .u64 0, .int .i64 0, .string ⟨#[]⟩]) := ⟨⟨(Tryz.prog.info? 47).getD default, .agg ([.int .i64 0, .int .u64 0, .string ⟨#[]⟩, .string ⟨#[]⟩, .int .i64 0, .string ⟨#[]⟩, .int .u64 0, .int .i64 0, .string ⟨#[]⟩]).toArray, by kernel_rfl, by kernel_rfl, by kernel_rfl, by kernel_rfl, by kernel_rfl, by kernel_rfl, by decide⟩⟩
instance : TAgg Tryz.prog 47 9 := ⟨fun w => ⟨by kernel_rfl, by kernel_rfl⟩⟩
instance : TField Tryz.prog 47 0 0 := ⟨fun w => ⟨(fsOf (Tryz.prog.underlying 47)), (fsOf (Tryz.prog.underlying 47)).getD 0 default, by kernel_rfl, by kernel_rfl, by kernel_rfl, by kernel_rfl, fun a => by kernel_rfl⟩⟩
instance : TField Tryz.prog 47 1 1 := ⟨fun w => ⟨(fsOf (Tryz.prog.underlying 47)), (fsOf (Tryz.prog.underlying 47)).getD 1 default, by kernel_rfl, by kernel_rfl, by kernel_rfl, by kernel_rfl, fun a => by kernel_rfl⟩⟩
instance : TField Tryz.prog 47 2 2 := ⟨fun w => ⟨(fsOf (Tryz.prog.underlying 47)), (fsOf (Tryz.prog.underlying 47)).getD 2 default, by kernel_rfl, by kernel_rfl, by kernel_rfl, by kernel_rfl, fun a => by kernel_rfl⟩⟩
instance : TField Tryz.prog 47 3 3 := ⟨fun w => ⟨(fsOf (Tryz.prog.underlying 47)), (fsOf (Tryz.prog.underlying 47)).getD 3 default, by kernel_rfl, by kernel_rfl, by kernel_rfl, by kernel_rfl, fun a => by kernel_rfl⟩⟩
instance : TField Tryz.prog 47 4 4 := ⟨fun w => ⟨(fsOf (Tryz.prog.underlying 47)), (fsOf (Tryz.prog.underlying 47)).getD 4 default, by kernel_rfl, by kernel_rfl, by kernel_rfl, by kernel_rfl, fun a => by kernel_rfl⟩⟩
instance : TField Tryz.prog 47 5 5 := ⟨fun w => ⟨(fsOf (Tryz.prog.underlying 47)), (fsOf (Tryz.prog.underlying 47)).getD 5 default, by kernel_rfl, by kernel_rfl, by kernel_rfl, by kernel_rfl, fun a => by kernel_rfl⟩⟩
instance : TField Tryz.prog 47 6 6 := ⟨fun w => ⟨(fsOf (Tryz.prog.underlying 47)), (fsOf (Tryz.prog.underlying 47)).getD 6 default, by kernel_rfl, by kernel_rfl, by kernel_rfl, by kernel_rfl, fun a => by kernel_rfl⟩⟩
instance : TField Tryz.prog 47 7 7 := ⟨fun w => ⟨(fsOf (Tryz.prog.underlying 47)), (fsOf (Tryz.prog.underlying 47)).getD 7 default, by kernel_rfl, by kernel_rfl, by kernel_rfl, by kernel_rfl, fun a => by kernel_rfl⟩⟩
instance : TField Tryz.prog 47 8 8 := ⟨fun w => ⟨(fsOf (Tryz.prog.underlying 47)), (fsOf (Tryz.prog.underlying 47)).getD 8 default, by kernel_rfl, by kernel_rfl, by kernel_rfl, by kernel_rfl, fun a => by kernel_rfl⟩⟩
instance : TPlaces Tryz.prog 47 [(0, 1), (1, 1), (2, 1), (3, 1), (4, 1), (5, 1), (6, 1), (7, 1), (8, 1)] ([.int .i64 0, .int .u64 0, .string ⟨#[]⟩, .string ⟨#[]⟩, .int .i64 0, .string ⟨#[]⟩, .int .u64 0, .int .i64 0, .string ⟨#[]⟩]) := ⟨fun w => ⟨by kernel_rfl, (fsOf (Tryz.prog.underlying 47)), by kernel_rfl, by kernel_rfl⟩⟩
instance : TInfo Tryz.prog 49 9 104 ([.int .i64 0, .int .u64 0, .string ⟨#[]⟩, .string ⟨#[]⟩, .int .i64 0, .string ⟨#[]⟩, .int .u64 0, .int .i64 0, .string ⟨#[]⟩]) := ⟨⟨(Tryz.prog.info? 49).getD default, .agg ([.int .i64 0, .int .u64 0, .string ⟨#[]⟩, .string ⟨#[]⟩, .int .i64 0, .string ⟨#[]⟩, .int .u64 0, .int .i64 0, .string ⟨#[]⟩]).toArray, by kernel_rfl, by kernel_rfl, by kernel_rfl, by kernel_rfl, by kernel_rfl, by kernel_rfl, by decide⟩⟩
instance : TAgg Tryz.prog 49 9 := ⟨fun w => ⟨by kernel_rfl, by kernel_rfl⟩⟩
instance : TField Tryz.prog 49 0 0 := ⟨fun w => ⟨(fsOf (Tryz.prog.underlying 49)), (fsOf (Tryz.prog.underlying 49)).getD 0 default, by kernel_rfl, by kernel_rfl, by kernel_rfl, by kernel_rfl, fun a => by kernel_rfl⟩⟩
instance : TField Tryz.prog 49 1 1 := ⟨fun w => ⟨(fsOf (Tryz.prog.underlying 49)), (fsOf (Tryz.prog.underlying 49)).getD 1 default, by kernel_rfl, by kernel_rfl, by kernel_rfl, by kernel_rfl, fun a => by kernel_rfl⟩⟩
instance : TField Tryz.prog 49 2 2 := ⟨fun w => ⟨(fsOf (Tryz.prog.underlying 49)), (fsOf (Tryz.prog.underlying 49)).getD 2 default, by kernel_rfl, by kernel_rfl, by kernel_rfl, by kernel_rfl, fun a => by kernel_rfl⟩⟩
instance : TField Tryz.prog 49 3 3 := ⟨fun w => ⟨(fsOf (Tryz.prog.underlying 49)), (fsOf (Tryz.prog.underlying 49)).getD 3 default, by kernel_rfl, by kernel_rfl, by kernel_rfl, by kernel_rfl, fun a => by kernel_rfl⟩⟩
instance : TField Tryz.prog 49 4 4 := ⟨fun w => ⟨(fsOf (Tryz.prog.underlying 49)), (fsOf (Tryz.prog.underlying 49)).getD 4 default, by kernel_rfl, by kernel_rfl, by kernel_rfl, by kernel_rfl, fun a => by kernel_rfl⟩⟩
instance : TField Tryz.prog 49 5 5 := ⟨fun w => ⟨(fsOf (Tryz.prog.underlying 49)), (fsOf (Tryz.prog.underlying 49)).getD 5 default, by kernel_rfl, by kernel_rfl, by kernel_rfl, by kernel_rfl, fun a => by kernel_rfl⟩⟩
instance : TField Tryz.prog 49 6 6 := ⟨fun w => ⟨(fsOf (Tryz.prog.underlying 49)), (fsOf (Tryz.prog.underlying 49)).getD 6 default, by kernel_rfl, by kernel_rfl, by kernel_rfl, by kernel_rfl, fun a => by kernel_rfl⟩⟩
instance : TField Tryz.prog 49 7 7 := ⟨fun w => ⟨(fsOf (Tryz.prog.underlying 49)), (fsOf (Tryz.prog.underlying 49)).getD 7 default, by kernel_rfl, by kernel_rfl, by kernel_rfl, by kernel_rfl, fun a => by kernel_rfl⟩⟩
instance : TField Tryz.prog 49 8 8 := ⟨fun w => ⟨(fsOf (Tryz.prog.underlying 49)), (fsOf (Tryz.prog.underlying 49)).getD 8 default, by kernel_rfl, by kernel_rfl, by kernel_rfl, by kernel_rfl, fun a => by kernel_rfl⟩⟩
instance : TPlaces Tryz.prog 49 [(0, 1), (1, 1), (2, 1), (3, 1), (4, 1), (5, 1), (6, 1), (7, 1), (8, 1)] ([.int .i64 0, .int .u64 0, .string ⟨#[]⟩, .string ⟨#[]⟩, .int .i64 0, .string ⟨#[]⟩, .int .u64 0, .int .i64 0, .string ⟨#[]⟩]) := ⟨fun w => ⟨by kernel_rfl, (fsOf (Tryz.prog.underlying 49)), by kernel_rfl, by kernel_rfl⟩⟩
instance : TInfo Tryz.prog 53 4 48 ([.string ⟨#[]⟩, .int .i64 0, .int .i64 0, .string ⟨#[]⟩]) := ⟨⟨(Tryz.prog.info? 53).getD default, .agg ([.string ⟨#[]⟩, .int .i64 0, .int .i64 0, .string ⟨#[]⟩]).toArray, by kernel_rfl, by kernel_rfl, by kernel_rfl, by kernel_rfl, by kernel_rfl, by kernel_rfl, by decide⟩⟩
instance : TAgg Tryz.prog 53 4 := ⟨fun w => ⟨by kernel_rfl, by kernel_rfl⟩⟩
instance : TFieldAgg Tryz.prog 53 0 0 2 := ⟨fun w => ⟨(fsOf (Tryz.prog.underlying 53)), (fsOf (Tryz.prog.underlying 53)).getD 0 default, by kernel_rfl, by kernel_rfl, by kernel_rfl, by kernel_rfl, by kernel_rfl, fun a => by kernel_rfl⟩⟩
instance : TField Tryz.prog 53 1 2 := ⟨fun w => ⟨(fsOf (Tryz.prog.underlying 53)), (fsOf (Tryz.prog.underlying 53)).getD 1 default, by kernel_rfl, by kernel_rfl, by kernel_rfl, by kernel_rfl, fun a => by kernel_rfl⟩⟩
instance : TField Tryz.prog 53 2 3 := ⟨fun w => ⟨(fsOf (Tryz.prog.underlying 53)), (fsOf (Tryz.prog.underlying 53)).getD 2 default, by kernel_rfl, by kernel_rfl, by kernel_rfl, by kernel_rfl, fun a => by kernel_rfl⟩⟩
instance : TPlaces Tryz.prog 53 [(0, 2), (2, 1), (3, 1)] ([.string ⟨#[]⟩, .int .i64 0, .int .i64 0, .string ⟨#[]⟩]) := ⟨fun w => ⟨by kernel_rfl, (fsOf (Tryz.prog.underlying 53)), by kernel_rfl, by kernel_rfl⟩⟩
instance : TSlice Tryz.prog 64 24 := ⟨Tryz.underlying64⟩
instance : TInfo Tryz.prog 64 1 24 ([.slice none 0 0]) := ⟨⟨(Tryz.prog.info? 64).getD default, .slice none 0 0, by kernel_rfl, by kernel_rfl, by kernel_rfl, by kernel_rfl, by kernel_rfl, by kernel_rfl, by decide⟩⟩
instance : TCell Tryz.prog 64 := ⟨fun w => ⟨by kernel_rfl, by kernel_rfl⟩⟩
instance : TInfo Tryz.prog 68 4 48 ([.string ⟨#[]⟩, .int .i64 0, .int .i64 0, .string ⟨#[]⟩]) := ⟨⟨(Tryz.prog.info? 68).getD default, .agg ([.string ⟨#[]⟩, .int .i64 0, .int .i64 0, .string ⟨#[]⟩]).toArray, by kernel_rfl, by kernel_rfl, by kernel_rfl, by kernel_rfl, by kernel_rfl, by kernel_rfl, by decide⟩⟩
instance : TAgg Tryz.prog 68 4 := ⟨fun w => ⟨by kernel_rfl, by kernel_rfl⟩⟩
instance : TFieldAgg Tryz.prog 68 0 0 2 := ⟨fun w => ⟨(fsOf (Tryz.prog.underlying 68)), (fsOf (Tryz.prog.underlying 68)).getD 0 default, by kernel_rfl, by kernel_rfl, by kernel_rfl, by kernel_rfl, by kernel_rfl, fun a => by kernel_rfl⟩⟩
instance : TField Tryz.prog 68 1 2 := ⟨fun w => ⟨(fsOf (Tryz.prog.underlying 68)), (fsOf (Tryz.prog.underlying 68)).getD 1 default, by kernel_rfl, by kernel_rfl, by kernel_rfl, by kernel_rfl, fun a => by kernel_rfl⟩⟩
instance : TField Tryz.prog 68 2 3 := ⟨fun w => ⟨(fsOf (Tryz.prog.underlying 68)), (fsOf (Tryz.prog.underlying 68)).getD 2 default, by kernel_rfl, by kernel_rfl, by kernel_rfl, by kernel_rfl, fun a => by kernel_rfl⟩⟩
instance : TPlaces Tryz.prog 68 [(0, 2), (2, 1), (3, 1)] ([.string ⟨#[]⟩, .int .i64 0, .int .i64 0, .string ⟨#[]⟩]) := ⟨fun w => ⟨by kernel_rfl, (fsOf (Tryz.prog.underlying 68)), by kernel_rfl, by kernel_rfl⟩⟩
instance : TInfo Tryz.prog 75 8 88 ([.string ⟨#[]⟩, .int .u64 0, .int .u64 0, .int .u64 0, .int .u64 0, .string ⟨#[]⟩, .int .u64 0, .string ⟨#[]⟩]) := ⟨⟨(Tryz.prog.info? 75).getD default, .agg ([.string ⟨#[]⟩, .int .u64 0, .int .u64 0, .int .u64 0, .int .u64 0, .string ⟨#[]⟩, .int .u64 0, .string ⟨#[]⟩]).toArray, by kernel_rfl, by kernel_rfl, by kernel_rfl, by kernel_rfl, by kernel_rfl, by kernel_rfl, by decide⟩⟩
instance : TAgg Tryz.prog 75 8 := ⟨fun w => ⟨by kernel_rfl, by kernel_rfl⟩⟩
instance : TField Tryz.prog 75 0 0 := ⟨fun w => ⟨(fsOf (Tryz.prog.underlying 75)), (fsOf (Tryz.prog.underlying 75)).getD 0 default, by kernel_rfl, by kernel_rfl, by kernel_rfl, by kernel_rfl, fun a => by kernel_rfl⟩⟩
instance : TField Tryz.prog 75 1 1 := ⟨fun w => ⟨(fsOf (Tryz.prog.underlying 75)), (fsOf (Tryz.prog.underlying 75)).getD 1 default, by kernel_rfl, by kernel_rfl, by kernel_rfl, by kernel_rfl, fun a => by kernel_rfl⟩⟩
instance : TField Tryz.prog 75 2 2 := ⟨fun w => ⟨(fsOf (Tryz.prog.underlying 75)), (fsOf (Tryz.prog.underlying 75)).getD 2 default, by kernel_rfl, by kernel_rfl, by kernel_rfl, by kernel_rfl, fun a => by kernel_rfl⟩⟩
instance : TField Tryz.prog 75 3 3 := ⟨fun w => ⟨(fsOf (Tryz.prog.underlying 75)), (fsOf (Tryz.prog.underlying 75)).getD 3 default, by kernel_rfl, by kernel_rfl, by kernel_rfl, by kernel_rfl, fun a => by kernel_rfl⟩⟩
instance : TField Tryz.prog 75 4 4 := ⟨fun w => ⟨(fsOf (Tryz.prog.underlying 75)), (fsOf (Tryz.prog.underlying 75)).getD 4 default, by kernel_rfl, by kernel_rfl, by kernel_rfl, by kernel_rfl, fun a => by kernel_rfl⟩⟩
instance : TField Tryz.prog 75 5 5 := ⟨fun w => ⟨(fsOf (Tryz.prog.underlying 75)), (fsOf (Tryz.prog.underlying 75)).getD 5 default, by kernel_rfl, by kernel_rfl, by kernel_rfl, by kernel_rfl, fun a => by kernel_rfl⟩⟩
instance : TField Tryz.prog 75 6 6 := ⟨fun w => ⟨(fsOf (Tryz.prog.underlying 75)), (fsOf (Tryz.prog.underlying 75)).getD 6 default, by kernel_rfl, by kernel_rfl, by kernel_rfl, by kernel_rfl, fun a => by kernel_rfl⟩⟩
instance : TField Tryz.prog 75 7 7 := ⟨fun w => ⟨(fsOf (Tryz.prog.underlying 75)), (fsOf (Tryz.prog.underlying 75)).getD 7 default, by kernel_rfl, by kernel_rfl, by kernel_rfl, by kernel_rfl, fun a => by kernel_rfl⟩⟩
instance : TPlaces Tryz.prog 75 [(0, 1), (1, 1), (2, 1), (3, 1), (4, 1), (5, 1), (6, 1), (7, 1)] ([.string ⟨#[]⟩, .int .u64 0, .int .u64 0, .int .u64 0, .int .u64 0, .string ⟨#[]⟩, .int .u64 0, .string ⟨#[]⟩]) := ⟨fun w => ⟨by kernel_rfl, (fsOf (Tryz.prog.underlying 75)), by kernel_rfl, by kernel_rfl⟩⟩
instance : TInfo Tryz.prog 77 10 112 ([.string ⟨#[]⟩, .int .u64 0, .int .u64 0, .int .u64 0, .int .u64 0, .string ⟨#[]⟩, .int .u64 0, .string ⟨#[]⟩, .string ⟨#[]⟩, .int .u64 0]) := ⟨⟨(Tryz.prog.info? 77).getD default, .agg ([.string ⟨#[]⟩, .int .u64 0, .int .u64 0, .int .u64 0, .int .u64 0, .string ⟨#[]⟩, .int .u64 0, .string ⟨#[]⟩, .string ⟨#[]⟩, .int .u64 0]).toArray, by kernel_rfl, by kernel_rfl, by kernel_rfl, by kernel_rfl, by kernel_rfl, by kernel_rfl, by decide⟩⟩
instance : TAgg Tryz.prog 77 10 := ⟨fun w => ⟨by kernel_rfl, by kernel_rfl⟩⟩
instance : TFieldAgg Tryz.prog 77 0 0 8 := ⟨fun w => ⟨(fsOf (Tryz.prog.underlying 77)), (fsOf (Tryz.prog.underlying 77)).getD 0 default, by kernel_rfl, by kernel_rfl, by kernel_rfl, by kernel_rfl, by kernel_rfl, fun a => by kernel_rfl⟩⟩
instance : TField Tryz.prog 77 1 8 := ⟨fun w => ⟨(fsOf (Tryz.prog.underlying 77)), (fsOf (Tryz.prog.underlying 77)).getD 1 default, by kernel_rfl, by kernel_rfl, by kernel_rfl, by kernel_rfl, fun a => by kernel_rfl⟩⟩
instance : TField Tryz.prog 77 2 9 := ⟨fun w => ⟨(fsOf (Tryz.prog.underlying 77)), (fsOf (Tryz.prog.underlying 77)).getD 2 default, by kernel_rfl, by kernel_rfl, by kernel_rfl, by kernel_rfl, fun a => by kernel_rfl⟩⟩
instance : TPlaces Tryz.prog 77 [(0, 8), (8, 1), (9, 1)] ([.string ⟨#[]⟩, .int .u64 0, .int .u64 0, .int .u64 0, .int .u64 0, .string ⟨#[]⟩, .int .u64 0, .string ⟨#[]⟩, .string ⟨#[]⟩, .int .u64 0]) := ⟨fun w => ⟨by kernel_rfl, (fsOf (Tryz.prog.underlying 77)), by kernel_rfl, by kernel_rfl⟩⟩
instance : TMap Tryz.prog 81 31 4 := ⟨Tryz.underlying81⟩
instance : TInfo Tryz.prog 81 1 8 ([.map none]) := ⟨⟨(Tryz.prog.info? 81).getD default, .map none, by kernel_rfl, by kernel_rfl, by kernel_rfl, by kernel_rfl, by kernel_rfl, by kernel_rfl, by decide⟩⟩
instance : TCell Tryz.prog 81 := ⟨fun w => ⟨by kernel_rfl, by kernel_rfl⟩⟩
instance : TInfo Tryz.prog 86 2 24 ([.string ⟨#[]⟩, .int .i64 0]) := ⟨⟨(Tryz.prog.info? 86).getD default, .agg ([.string ⟨#[]⟩, .int .i64 0]).toArray, by kernel_rfl, by kernel_rfl, by kernel_rfl, by kernel_rfl, by kernel_rfl, by kernel_rfl, by decide⟩⟩
instance : TAgg Tryz.prog 86 2 := ⟨fun w => ⟨by kernel_rfl, by kernel_rfl⟩⟩
instance : TField Tryz.prog 86 0 0 := ⟨fun w => ⟨(fsOf (Tryz.prog.underlying 86)), (fsOf (Tryz.prog.underlying 86)).getD 0 default, by kernel_rfl, by kernel_rfl, by kernel_rfl, by kernel_rfl, fun a => by kernel_rfl⟩⟩
instance : TField Tryz.prog 86 1 1 := ⟨fun w => ⟨(fsOf (Tryz.prog.underlying 86)), (fsOf (Tryz.prog.underlying 86)).getD 1 default, by kernel_rfl, by kernel_rfl, by kernel_rfl, by kernel_rfl, fun a => by kernel_rfl⟩⟩
instance : TPlaces Tryz.prog 86 [(0, 1), (1, 1)] ([.string ⟨#[]⟩, .int .i64 0]) := ⟨fun w => ⟨by kernel_rfl, (fsOf (Tryz.prog.underlying 86)), by kernel_rfl, by kernel_rfl⟩⟩
instance : TPtr Tryz.prog 90 86 := ⟨Tryz.underlying90⟩
instance : TInfo Tryz.prog 90 1 8 ([.pointer none]) := ⟨⟨(Tryz.prog.info? 90).getD default, .pointer none, by kernel_rfl, by kernel_rfl, by kernel_rfl, by kernel_rfl, by kernel_rfl, by kernel_rfl, by decide⟩⟩
instance : TCell Tryz.prog 90 := ⟨fun w => ⟨by kernel_rfl, by kernel_rfl⟩⟩
instance : TPtr Tryz.prog 92 94 := ⟨Tryz.underlying92⟩
instance : TInfo Tryz.prog 92 1 8 ([.pointer none]) := ⟨⟨(Tryz.prog.info? 92).getD default, .pointer none, by kernel_rfl, by kernel_rfl, by kernel_rfl, by kernel_rfl, by kernel_rfl, by kernel_rfl, by decide⟩⟩
instance : TCell Tryz.prog 92 := ⟨fun w => ⟨by kernel_rfl, by kernel_rfl⟩⟩
instance : TInfo Tryz.prog 94 2 24 ([.string ⟨#[]⟩, .int .i64 0]) := ⟨⟨(Tryz.prog.info? 94).getD default, .agg ([.string ⟨#[]⟩, .int .i64 0]).toArray, by kernel_rfl, by kernel_rfl, by kernel_rfl, by kernel_rfl, by kernel_rfl, by kernel_rfl, by decide⟩⟩
instance : TAgg Tryz.prog 94 2 := ⟨fun w => ⟨by kernel_rfl, by kernel_rfl⟩⟩
instance : TField Tryz.prog 94 0 0 := ⟨fun w => ⟨(fsOf (Tryz.prog.underlying 94)), (fsOf (Tryz.prog.underlying 94)).getD 0 default, by kernel_rfl, by kernel_rfl, by kernel_rfl, by kernel_rfl, fun a => by kernel_rfl⟩⟩
instance : TField Tryz.prog 94 1 1 := ⟨fun w => ⟨(fsOf (Tryz.prog.underlying 94)), (fsOf (Tryz.prog.underlying 94)).getD 1 default, by kernel_rfl, by kernel_rfl, by kernel_rfl, by kernel_rfl, fun a => by kernel_rfl⟩⟩
instance : TPlaces Tryz.prog 94 [(0, 1), (1, 1)] ([.string ⟨#[]⟩, .int .i64 0]) := ⟨fun w => ⟨by kernel_rfl, (fsOf (Tryz.prog.underlying 94)), by kernel_rfl, by kernel_rfl⟩⟩
instance : TSlice Tryz.prog 98 9 := ⟨Tryz.underlying98⟩
instance : TInfo Tryz.prog 98 1 24 ([.slice none 0 0]) := ⟨⟨(Tryz.prog.info? 98).getD default, .slice none 0 0, by kernel_rfl, by kernel_rfl, by kernel_rfl, by kernel_rfl, by kernel_rfl, by kernel_rfl, by decide⟩⟩
instance : TCell Tryz.prog 98 := ⟨fun w => ⟨by kernel_rfl, by kernel_rfl⟩⟩
instance : TSlice Tryz.prog 102 5 := ⟨Tryz.underlying102⟩
instance : TInfo Tryz.prog 102 1 24 ([.slice none 0 0]) := ⟨⟨(Tryz.prog.info? 102).getD default, .slice none 0 0, by kernel_rfl, by kernel_rfl, by kernel_rfl, by kernel_rfl, by kernel_rfl, by kernel_rfl, by decide⟩⟩
instance : TCell Tryz.prog 102 := ⟨fun w => ⟨by kernel_rfl, by kernel_rfl⟩⟩
instance : TInfo Tryz.prog 108 8 88 ([.string ⟨#[]⟩, .int .u64 0, .int .u64 0, .int .u64 0, .int .u64 0, .string ⟨#[]⟩, .int .u64 0, .string ⟨#[]⟩]) := ⟨⟨(Tryz.prog.info? 108).getD default, .agg ([.string ⟨#[]⟩, .int .u64 0, .int .u64 0, .int .u64 0, .int .u64 0, .string ⟨#[]⟩, .int .u64 0, .string ⟨#[]⟩]).toArray, by kernel_rfl, by kernel_rfl, by kernel_rfl, by kernel_rfl, by kernel_rfl, by kernel_rfl, by decide⟩⟩
instance : TAgg Tryz.prog 108 8 := ⟨fun w => ⟨by kernel_rfl, by kernel_rfl⟩⟩
instance : TField Tryz.prog 108 0 0 := ⟨fun w => ⟨(fsOf (Tryz.prog.underlying 108)), (fsOf (Tryz.prog.underlying 108)).getD 0 default, by kernel_rfl, by kernel_rfl, by kernel_rfl, by kernel_rfl, fun a => by kernel_rfl⟩⟩
instance : TField Tryz.prog 108 1 1 := ⟨fun w => ⟨(fsOf (Tryz.prog.underlying 108)), (fsOf (Tryz.prog.underlying 108)).getD 1 default, by kernel_rfl, by kernel_rfl, by kernel_rfl, by kernel_rfl, fun a => by kernel_rfl⟩⟩
instance : TField Tryz.prog 108 2 2 := ⟨fun w => ⟨(fsOf (Tryz.prog.underlying 108)), (fsOf (Tryz.prog.underlying 108)).getD 2 default, by kernel_rfl, by kernel_rfl, by kernel_rfl, by kernel_rfl, fun a => by kernel_rfl⟩⟩
instance : TField Tryz.prog 108 3 3 := ⟨fun w => ⟨(fsOf (Tryz.prog.underlying 108)), (fsOf (Tryz.prog.underlying 108)).getD 3 default, by kernel_rfl, by kernel_rfl, by kernel_rfl, by kernel_rfl, fun a => by kernel_rfl⟩⟩
instance : TField Tryz.prog 108 4 4 := ⟨fun w => ⟨(fsOf (Tryz.prog.underlying 108)), (fsOf (Tryz.prog.underlying 108)).getD 4 default, by kernel_rfl, by kernel_rfl, by kernel_rfl, by kernel_rfl, fun a => by kernel_rfl⟩⟩
instance : TField Tryz.prog 108 5 5 := ⟨fun w => ⟨(fsOf (Tryz.prog.underlying 108)), (fsOf (Tryz.prog.underlying 108)).getD 5 default, by kernel_rfl, by kernel_rfl, by kernel_rfl, by kernel_rfl, fun a => by kernel_rfl⟩⟩
instance : TField Tryz.prog 108 6 6 := ⟨fun w => ⟨(fsOf (Tryz.prog.underlying 108)), (fsOf (Tryz.prog.underlying 108)).getD 6 default, by kernel_rfl, by kernel_rfl, by kernel_rfl, by kernel_rfl, fun a => by kernel_rfl⟩⟩
instance : TField Tryz.prog 108 7 7 := ⟨fun w => ⟨(fsOf (Tryz.prog.underlying 108)), (fsOf (Tryz.prog.underlying 108)).getD 7 default, by kernel_rfl, by kernel_rfl, by kernel_rfl, by kernel_rfl, fun a => by kernel_rfl⟩⟩
instance : TPlaces Tryz.prog 108 [(0, 1), (1, 1), (2, 1), (3, 1), (4, 1), (5, 1), (6, 1), (7, 1)] ([.string ⟨#[]⟩, .int .u64 0, .int .u64 0, .int .u64 0, .int .u64 0, .string ⟨#[]⟩, .int .u64 0, .string ⟨#[]⟩]) := ⟨fun w => ⟨by kernel_rfl, (fsOf (Tryz.prog.underlying 108)), by kernel_rfl, by kernel_rfl⟩⟩
instance : TInfo Tryz.prog 110 10 112 ([.string ⟨#[]⟩, .int .u64 0, .int .u64 0, .int .u64 0, .int .u64 0, .string ⟨#[]⟩, .int .u64 0, .string ⟨#[]⟩, .string ⟨#[]⟩, .int .u64 0]) := ⟨⟨(Tryz.prog.info? 110).getD default, .agg ([.string ⟨#[]⟩, .int .u64 0, .int .u64 0, .int .u64 0, .int .u64 0, .string ⟨#[]⟩, .int .u64 0, .string ⟨#[]⟩, .string ⟨#[]⟩, .int .u64 0]).toArray, by kernel_rfl, by kernel_rfl, by kernel_rfl, by kernel_rfl, by kernel_rfl, by kernel_rfl, by decide⟩⟩
instance : TAgg Tryz.prog 110 10 := ⟨fun w => ⟨by kernel_rfl, by kernel_rfl⟩⟩
instance : TFieldAgg Tryz.prog 110 0 0 8 := ⟨fun w => ⟨(fsOf (Tryz.prog.underlying 110)), (fsOf (Tryz.prog.underlying 110)).getD 0 default, by kernel_rfl, by kernel_rfl, by kernel_rfl, by kernel_rfl, by kernel_rfl, fun a => by kernel_rfl⟩⟩
instance : TField Tryz.prog 110 1 8 := ⟨fun w => ⟨(fsOf (Tryz.prog.underlying 110)), (fsOf (Tryz.prog.underlying 110)).getD 1 default, by kernel_rfl, by kernel_rfl, by kernel_rfl, by kernel_rfl, fun a => by kernel_rfl⟩⟩
instance : TField Tryz.prog 110 2 9 := ⟨fun w => ⟨(fsOf (Tryz.prog.underlying 110)), (fsOf (Tryz.prog.underlying 110)).getD 2 default, by kernel_rfl, by kernel_rfl, by kernel_rfl, by kernel_rfl, fun a => by kernel_rfl⟩⟩
instance : TPlaces Tryz.prog 110 [(0, 8), (8, 1), (9, 1)] ([.string ⟨#[]⟩, .int .u64 0, .int .u64 0, .int .u64 0, .int .u64 0, .string ⟨#[]⟩, .int .u64 0, .string ⟨#[]⟩, .string ⟨#[]⟩, .int .u64 0]) := ⟨fun w => ⟨by kernel_rfl, (fsOf (Tryz.prog.underlying 110)), by kernel_rfl, by kernel_rfl⟩⟩
instance : TInt Tryz.prog 118 .u64 := ⟨Tryz.underlying118⟩
instance : TInfo Tryz.prog 118 1 8 ([.int .u64 0]) := ⟨⟨(Tryz.prog.info? 118).getD default, .int .u64 0, by kernel_rfl, by kernel_rfl, by kernel_rfl, by kernel_rfl, by kernel_rfl, by kernel_rfl, by decide⟩⟩
instance : TCell Tryz.prog 118 := ⟨fun w => ⟨by kernel_rfl, by kernel_rfl⟩⟩
instance : TInfo Tryz.prog 119 1 8 ([.nilFunc]) := ⟨⟨(Tryz.prog.info? 119).getD default, .nilFunc, by kernel_rfl, by kernel_rfl, by kernel_rfl, by kernel_rfl, by kernel_rfl, by kernel_rfl, by decide⟩⟩
instance : TCell Tryz.prog 119 := ⟨fun w => ⟨by kernel_rfl, by kernel_rfl⟩⟩
instance : TPtr Tryz.prog 121 131 := ⟨Tryz.underlying121⟩
instance : TInfo Tryz.prog 121 1 8 ([.pointer none]) := ⟨⟨(Tryz.prog.info? 121).getD default, .pointer none, by kernel_rfl, by kernel_rfl, by kernel_rfl, by kernel_rfl, by kernel_rfl, by kernel_rfl, by decide⟩⟩
instance : TCell Tryz.prog 121 := ⟨fun w => ⟨by kernel_rfl, by kernel_rfl⟩⟩
instance : TInfo Tryz.prog 131 2 24 ([.string ⟨#[]⟩, .int .i64 0]) := ⟨⟨(Tryz.prog.info? 131).getD default, .agg ([.string ⟨#[]⟩, .int .i64 0]).toArray, by kernel_rfl, by kernel_rfl, by kernel_rfl, by kernel_rfl, by kernel_rfl, by kernel_rfl, by decide⟩⟩
instance : TAgg Tryz.prog 131 2 := ⟨fun w => ⟨by kernel_rfl, by kernel_rfl⟩⟩
instance : TField Tryz.prog 131 0 0 := ⟨fun w => ⟨(fsOf (Tryz.prog.underlying 131)), (fsOf (Tryz.prog.underlying 131)).getD 0 default, by kernel_rfl, by kernel_rfl, by kernel_rfl, by kernel_rfl, fun a => by kernel_rfl⟩⟩
instance : TField Tryz.prog 131 1 1 := ⟨fun w => ⟨(fsOf (Tryz.prog.underlying 131)), (fsOf (Tryz.prog.underlying 131)).getD 1 default, by kernel_rfl, by kernel_rfl, by kernel_rfl, by kernel_rfl, fun a => by kernel_rfl⟩⟩
instance : TPlaces Tryz.prog 131 [(0, 1), (1, 1)] ([.string ⟨#[]⟩, .int .i64 0]) := ⟨fun w => ⟨by kernel_rfl, (fsOf (Tryz.prog.underlying 131)), by kernel_rfl, by kernel_rfl⟩⟩
instance : TInfo Tryz.prog 133 1 8 ([.nilFunc]) := ⟨⟨(Tryz.prog.info? 133).getD default, .nilFunc, by kernel_rfl, by kernel_rfl, by kernel_rfl, by kernel_rfl, by kernel_rfl, by kernel_rfl, by decide⟩⟩
instance : TCell Tryz.prog 133 := ⟨fun w => ⟨by kernel_rfl, by kernel_rfl⟩⟩
instance : TPtr Tryz.prog 138 153 := ⟨Tryz.underlying138⟩
instance : TInfo Tryz.prog 138 1 8 ([.pointer none]) := ⟨⟨(Tryz.prog.info? 138).getD default, .pointer none, by kernel_rfl, by kernel_rfl, by kernel_rfl, by kernel_rfl, by kernel_rfl, by kernel_rfl, by decide⟩⟩
instance : TCell Tryz.prog 138 := ⟨fun w => ⟨by kernel_rfl, by kernel_rfl⟩⟩
instance : TInt Tryz.prog 140 .u32 := ⟨Tryz.underlying140⟩
instance : TInfo Tryz.prog 140 1 4 ([.int .u32 0]) := ⟨⟨(Tryz.prog.info? 140).getD default, .int .u32 0, by kernel_rfl, by kernel_rfl, by kernel_rfl, by kernel_rfl, by kernel_rfl, by kernel_rfl, by decide⟩⟩
instance : TCell Tryz.prog 140 := ⟨fun w => ⟨by kernel_rfl, by kernel_rfl⟩⟩
instance : TSlice Tryz.prog 141 140 := ⟨Tryz.underlying141⟩
instance : TInfo Tryz.prog 141 1 24 ([.slice none 0 0]) := ⟨⟨(Tryz.prog.info? 141).getD default, .slice none 0 0, by kernel_rfl, by kernel_rfl, by kernel_rfl, by kernel_rfl, by kernel_rfl, by kernel_rfl, by decide⟩⟩
instance : TCell Tryz.prog 141 := ⟨fun w => ⟨by kernel_rfl, by kernel_rfl⟩⟩
instance : TInfo Tryz.prog 148 1 8 ([.nilFunc]) := ⟨⟨(Tryz.prog.info? 148).getD default, .nilFunc, by kernel_rfl, by kernel_rfl, by kernel_rfl, by kernel_rfl, by kernel_rfl, by kernel_rfl, by decide⟩⟩
instance : TCell Tryz.prog 148 := ⟨fun w => ⟨by kernel_rfl, by kernel_rfl⟩⟩
instance : TArr Tryz.prog 149 8 140 := ⟨Tryz.underlying149⟩
instance : TInfo Tryz.prog 149 8 32 (List.replicate 8 (.int .u32 0)) := ⟨⟨(Tryz.prog.info? 149).getD default, .agg (List.replicate 8 (.int .u32 0)).toArray, by kernel_rfl, by kernel_rfl, by kernel_rfl, by kernel_rfl, by kernel_rfl, by kernel_rfl, by decide⟩⟩
instance : TAgg Tryz.prog 149 8 := ⟨fun w => ⟨by kernel_rfl, by kernel_rfl⟩⟩
instance : TArr Tryz.prog 150 8 140 := ⟨Tryz.underlying150⟩
instance : TInfo Tryz.prog 150 8 32 (List.replicate 8 (.int .u32 0)) := ⟨⟨(Tryz.prog.info? 150).getD default, .agg (List.replicate 8 (.int .u32 0)).toArray, by kernel_rfl, by kernel_rfl, by kernel_rfl, by kernel_rfl, by kernel_rfl, by kernel_rfl, by decide⟩⟩
instance : TAgg Tryz.prog 150 8 := ⟨fun w => ⟨by kernel_rfl, by kernel_rfl⟩⟩
instance : TInfo Tryz.prog 153 10 56 ([.int .u32 0, .int .u32 0, .int .u32 0, .int .u32 0, .int .u32 0, .int .u32 0, .int .u32 0, .int .u32 0, .string ⟨#[]⟩, .int .i64 0]) := ⟨⟨(Tryz.prog.info? 153).getD default, .agg ([.int .u32 0, .int .u32 0, .int .u32 0, .int .u32 0, .int .u32 0, .int .u32 0, .int .u32 0, .int .u32 0, .string ⟨#[]⟩, .int .i64 0]).toArray, by kernel_rfl, by kernel_rfl, by kernel_rfl, by kernel_rfl, by kernel_rfl, by kernel_rfl, by decide⟩⟩
instance : TAgg Tryz.prog 153 10 := ⟨fun w => ⟨by kernel_rfl, by kernel_rfl⟩⟩
instance : TFieldAgg Tryz.prog 153 0 0 8 := ⟨fun w => ⟨(fsOf (Tryz.prog.underlying 153)), (fsOf (Tryz.prog.underlying 153)).getD 0 default, by kernel_rfl, by kernel_rfl, by kernel_rfl, by kernel_rfl, by kernel_rfl, fun a => by kernel_rfl⟩⟩
instance : TField Tryz.prog 153 1 8 := ⟨fun w => ⟨(fsOf (Tryz.prog.underlying 153)), (fsOf (Tryz.prog.underlying 153)).getD 1 default, by kernel_rfl, by kernel_rfl, by kernel_rfl, by kernel_rfl, fun a => by kernel_rfl⟩⟩
instance : TField Tryz.prog 153 2 9 := ⟨fun w => ⟨(fsOf (Tryz.prog.underlying 153)), (fsOf (Tryz.prog.underlying 153)).getD 2 default, by kernel_rfl, by kernel_rfl, by kernel_rfl, by kernel_rfl, fun a => by kernel_rfl⟩⟩
instance : TPlaces Tryz.prog 153 [(0, 8), (8, 1), (9, 1)] ([.int .u32 0, .int .u32 0, .int .u32 0, .int .u32 0, .int .u32 0, .int .u32 0, .int .u32 0, .int .u32 0, .string ⟨#[]⟩, .int .i64 0]) := ⟨fun w => ⟨by kernel_rfl, (fsOf (Tryz.prog.underlying 153)), by kernel_rfl, by kernel_rfl⟩⟩
instance : TPtr Tryz.prog 158 150 := ⟨Tryz.underlying158⟩
instance : TInfo Tryz.prog 158 1 8 ([.pointer none]) := ⟨⟨(Tryz.prog.info? 158).getD default, .pointer none, by kernel_rfl, by kernel_rfl, by kernel_rfl, by kernel_rfl, by kernel_rfl, by kernel_rfl, by decide⟩⟩
instance : TCell Tryz.prog 158 := ⟨fun w => ⟨by kernel_rfl, by kernel_rfl⟩⟩
instance : TPtr Tryz.prog 159 162 := ⟨Tryz.underlying159⟩
instance : TInfo Tryz.prog 159 1 8 ([.pointer none]) := ⟨⟨(Tryz.prog.info? 159).getD default, .pointer none, by kernel_rfl, by kernel_rfl, by kernel_rfl, by kernel_rfl, by kernel_rfl, by kernel_rfl, by decide⟩⟩
instance : TCell Tryz.prog 159 := ⟨fun w => ⟨by kernel_rfl, by kernel_rfl⟩⟩
instance : TArr Tryz.prog 162 64 140 := ⟨Tryz.underlying162⟩
instance : TInfo Tryz.prog 162 64 256 (List.replicate 64 (.int .u32 0)) := ⟨⟨(Tryz.prog.info? 162).getD default, .agg (List.replicate 64 (.int .u32 0)).toArray, by kernel_rfl, by kernel_rfl, by kernel_rfl, by kernel_rfl, by kernel_rfl, by kernel_rfl, by decide⟩⟩
instance : TAgg Tryz.prog 162 64 := ⟨fun w => ⟨by kernel_rfl, by kernel_rfl⟩⟩
instance : HasBody Tryz.prog 3 := ⟨Tryz.call3⟩
instance : HasBody Tryz.prog 4 := ⟨Tryz.call4⟩
instance : HasBody Tryz.prog 5 := ⟨Tryz.call5⟩
instance : HasBody Tryz.prog 6 := ⟨Tryz.call6⟩
instance : HasBody Tryz.prog 7 := ⟨Tryz.call7⟩
instance : HasBody Tryz.prog 8 := ⟨Tryz.call8⟩
instance : HasBody Tryz.prog 9 := ⟨Tryz.call9⟩
instance : HasBody Tryz.prog 10 := ⟨Tryz.call10⟩
instance : HasBody Tryz.prog 11 := ⟨Tryz.call11⟩
instance : HasBody Tryz.prog 12 := ⟨Tryz.call12⟩
instance : HasBody Tryz.prog 13 := ⟨Tryz.call13⟩
instance : HasBody Tryz.prog 14 := ⟨Tryz.call14⟩
instance : HasBody Tryz.prog 15 := ⟨Tryz.call15⟩
instance : HasBody Tryz.prog 16 := ⟨Tryz.call16⟩
instance : HasBody Tryz.prog 17 := ⟨Tryz.call17⟩
instance : HasBody Tryz.prog 18 := ⟨Tryz.call18⟩
instance : HasBody Tryz.prog 19 := ⟨Tryz.call19⟩
instance : HasBody Tryz.prog 20 := ⟨Tryz.call20⟩
instance : HasBody Tryz.prog 21 := ⟨Tryz.call21⟩
instance : HasBody Tryz.prog 22 := ⟨Tryz.call22⟩
instance : HasBody Tryz.prog 23 := ⟨Tryz.call23⟩
instance : HasBody Tryz.prog 24 := ⟨Tryz.call24⟩
instance : HasBody Tryz.prog 25 := ⟨Tryz.call25⟩
instance : HasBody Tryz.prog 26 := ⟨Tryz.call26⟩
instance : HasBody Tryz.prog 27 := ⟨Tryz.call27⟩
instance : HasBody Tryz.prog 28 := ⟨Tryz.call28⟩
instance : HasBody Tryz.prog 29 := ⟨Tryz.call29⟩
instance : HasBody Tryz.prog 30 := ⟨Tryz.call30⟩
instance : HasBody Tryz.prog 31 := ⟨Tryz.call31⟩
instance : HasBody Tryz.prog 32 := ⟨Tryz.call32⟩
instance : HasBody Tryz.prog 33 := ⟨Tryz.call33⟩
instance : HasBody Tryz.prog 34 := ⟨Tryz.call34⟩
instance : HasBody Tryz.prog 35 := ⟨Tryz.call35⟩
instance : HasBody Tryz.prog 36 := ⟨Tryz.call36⟩
instance : HasBody Tryz.prog 37 := ⟨Tryz.call37⟩
instance : HasBody Tryz.prog 38 := ⟨Tryz.call38⟩
instance : HasBody Tryz.prog 39 := ⟨Tryz.call39⟩
instance : HasBody Tryz.prog 40 := ⟨Tryz.call40⟩
instance : HasBody Tryz.prog 41 := ⟨Tryz.call41⟩
instance : HasBody Tryz.prog 42 := ⟨Tryz.call42⟩
instance : HasBody Tryz.prog 43 := ⟨Tryz.call43⟩
instance : HasBody Tryz.prog 44 := ⟨Tryz.call44⟩
instance : HasBody Tryz.prog 45 := ⟨Tryz.call45⟩
instance : HasBody Tryz.prog 46 := ⟨Tryz.call46⟩
instance : HasBody Tryz.prog 47 := ⟨Tryz.call47⟩
instance : HasBody Tryz.prog 48 := ⟨Tryz.call48⟩
instance : HasBody Tryz.prog 49 := ⟨Tryz.call49⟩
instance : HasBody Tryz.prog 50 := ⟨Tryz.call50⟩
instance : HasBody Tryz.prog 51 := ⟨Tryz.call51⟩
instance : HasBody Tryz.prog 52 := ⟨Tryz.call52⟩
instance : HasBody Tryz.prog 53 := ⟨Tryz.call53⟩
instance : HasBody Tryz.prog 54 := ⟨Tryz.call54⟩
instance : HasBody Tryz.prog 55 := ⟨Tryz.call55⟩
instance : HasBody Tryz.prog 56 := ⟨Tryz.call56⟩
instance : HasBody Tryz.prog 57 := ⟨Tryz.call57⟩
instance : HasBody Tryz.prog 58 := ⟨Tryz.call58⟩
instance : HasBody Tryz.prog 59 := ⟨Tryz.call59⟩
instance : HasBody Tryz.prog 60 := ⟨Tryz.call60⟩
instance : HasBody Tryz.prog 61 := ⟨Tryz.call61⟩
instance : HasBody Tryz.prog 62 := ⟨Tryz.call62⟩
instance : HasBody Tryz.prog 63 := ⟨Tryz.call63⟩
instance : HasBody Tryz.prog 64 := ⟨Tryz.call64⟩
instance : HasBody Tryz.prog 65 := ⟨Tryz.call65⟩
instance : HasBody Tryz.prog 66 := ⟨Tryz.call66⟩
instance : HasBody Tryz.prog 67 := ⟨Tryz.call67⟩
instance : HasBody Tryz.prog 68 := ⟨Tryz.call68⟩
instance : HasBody Tryz.prog 69 := ⟨Tryz.call69⟩
instance : HasBody Tryz.prog 70 := ⟨Tryz.call70⟩
instance : HasBody Tryz.prog 71 := ⟨Tryz.call71⟩
instance : HasBody Tryz.prog 72 := ⟨Tryz.call72⟩
instance : HasBody Tryz.prog 73 := ⟨Tryz.call73⟩
instance : HasBody Tryz.prog 74 := ⟨Tryz.call74⟩
instance : HasBody Tryz.prog 75 := ⟨Tryz.call75⟩
instance : HasBody Tryz.prog 76 := ⟨Tryz.call76⟩
instance : HasBody Tryz.prog 77 := ⟨Tryz.call77⟩
instance : HasBody Tryz.prog 78 := ⟨Tryz.call78⟩
instance : HasBody Tryz.prog 79 := ⟨Tryz.call79⟩
instance : HasBody Tryz.prog 80 := ⟨Tryz.call80⟩
instance : HasBody Tryz.prog 81 := ⟨Tryz.call81⟩
instance : HasBody Tryz.prog 82 := ⟨Tryz.call82⟩
instance : HasBody Tryz.prog 83 := ⟨Tryz.call83⟩
instance : HasBody Tryz.prog 84 := ⟨Tryz.call84⟩
instance : HasBody Tryz.prog 85 := ⟨Tryz.call85⟩
instance : HasBody Tryz.prog 86 := ⟨Tryz.call86⟩
instance : HasBody Tryz.prog 87 := ⟨Tryz.call87⟩
instance : HasBody Tryz.prog 88 := ⟨Tryz.call88⟩
instance : HasBody Tryz.prog 89 := ⟨Tryz.call89⟩
instance : HasBody Tryz.prog 90 := ⟨Tryz.call90⟩
instance : HasBody Tryz.prog 91 := ⟨Tryz.call91⟩
instance : HasBody Tryz.prog 92 := ⟨Tryz.call92⟩
instance : HasBody Tryz.prog 93 := ⟨Tryz.call93⟩
instance : HasBody Tryz.prog 94 := ⟨Tryz.call94⟩
instance : HasBody Tryz.prog 95 := ⟨Tryz.call95⟩
instance : HasBody Tryz.prog 96 := ⟨Tryz.call96⟩
instance : HasBody Tryz.prog 97 := ⟨Tryz.call97⟩
instance : HasBody Tryz.prog 98 := ⟨Tryz.call98⟩
instance : HasBody Tryz.prog 99 := ⟨Tryz.call99⟩
instance : HasBody Tryz.prog 100 := ⟨Tryz.call100⟩
instance : HasBody Tryz.prog 101 := ⟨Tryz.call101⟩
instance : HasBody Tryz.prog 102 := ⟨Tryz.call102⟩
instance : HasBody Tryz.prog 103 := ⟨Tryz.call103⟩
instance : HasBody Tryz.prog 104 := ⟨Tryz.call104⟩
instance : HasBody Tryz.prog 105 := ⟨Tryz.call105⟩
instance : HasBody Tryz.prog 106 := ⟨Tryz.call106⟩
instance : HasBody Tryz.prog 107 := ⟨Tryz.call107⟩
instance : HasBody Tryz.prog 108 := ⟨Tryz.call108⟩
instance : HasBody Tryz.prog 109 := ⟨Tryz.call109⟩
instance : HasBody Tryz.prog 110 := ⟨Tryz.call110⟩
instance : HasBody Tryz.prog 111 := ⟨Tryz.call111⟩
instance : HasBody Tryz.prog 112 := ⟨Tryz.call112⟩
instance : HasBody Tryz.prog 113 := ⟨Tryz.call113⟩
instance : HasBody Tryz.prog 114 := ⟨Tryz.call114⟩
instance : HasBody Tryz.prog 115 := ⟨Tryz.call115⟩
instance : HasBody Tryz.prog 116 := ⟨Tryz.call116⟩
instance : HasBody Tryz.prog 117 := ⟨Tryz.call117⟩
end Go.Proofs.YtamlleachfngeaaGreat
