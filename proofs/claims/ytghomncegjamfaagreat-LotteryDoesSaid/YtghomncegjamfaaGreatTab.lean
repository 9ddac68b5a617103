/- The types and functions of this translation, as instances for the calculus. Written by program. -/
import Derived.Test.YtghomncegjamfaaGreatChecked
import Derived.Test.YtghomncegjamfaaGreatJf
namespace Go.Proofs.YtghomncegjamfaaGreat
set_option maxRecDepth 100000
instance : Mixed Tryz.prog := ⟨by kernel_rfl⟩
instance : TInt Tryz.prog 3 .i64 := ⟨Tryz.underlying3⟩
instance : TInfo Tryz.prog 3 1 8 ([.int .i64 0]) := ⟨⟨(Tryz.prog.info? 3).getD default, .int .i64 0, by kernel_rfl, by kernel_rfl, by kernel_rfl, by kernel_rfl, by kernel_rfl, by kernel_rfl, by decide⟩⟩
instance : TCell Tryz.prog 3 := ⟨fun w => ⟨by kernel_rfl, by kernel_rfl⟩⟩
instance : TBool Tryz.prog 4 := ⟨Tryz.underlying4⟩
instance : TInfo Tryz.prog 4 1 1 ([.bool false]) := ⟨⟨(Tryz.prog.info? 4).getD default, .bool false, by kernel_rfl, by kernel_rfl, by kernel_rfl, by kernel_rfl, by kernel_rfl, by kernel_rfl, by decide⟩⟩
instance : TCell Tryz.prog 4 := ⟨fun w => ⟨by kernel_rfl, by kernel_rfl⟩⟩
instance : TInt Tryz.prog 5 .u8 := ⟨Tryz.underlying5⟩
instance : TInfo Tryz.prog 5 1 1 ([.int .u8 0]) := ⟨⟨(Tryz.prog.info? 5).getD default, .int .u8 0, by kernel_rfl, by kernel_rfl, by kernel_rfl, by kernel_rfl, by kernel_rfl, by kernel_rfl, by decide⟩⟩
instance : TCell Tryz.prog 5 := ⟨fun w => ⟨by kernel_rfl, by kernel_rfl⟩⟩
instance : TStr Tryz.prog 9 := ⟨Tryz.underlying9⟩
instance : TInfo Tryz.prog 9 1 16 ([.string ⟨#[]⟩]) := ⟨⟨(Tryz.prog.info? 9).getD default, .string ⟨#[]⟩, by kernel_rfl, by kernel_rfl, by kernel_rfl, by kernel_rfl, by kernel_rfl, by kernel_rfl, by decide⟩⟩
instance : TCell Tryz.prog 9 := ⟨fun w => ⟨by kernel_rfl, by kernel_rfl⟩⟩
instance : TSlice Tryz.prog 22 36 := ⟨Tryz.underlying22⟩
instance : TInfo Tryz.prog 22 1 24 ([.slice none 0 0]) := ⟨⟨(Tryz.prog.info? 22).getD default, .slice none 0 0, by kernel_rfl, by kernel_rfl, by kernel_rfl, by kernel_rfl, by kernel_rfl, by kernel_rfl, by decide⟩⟩
instance : TCell Tryz.prog 22 := ⟨fun w => ⟨by kernel_rfl, by kernel_rfl⟩⟩
instance : TPtr Tryz.prog 23 60 := ⟨Tryz.underlying23⟩
instance : TInfo Tryz.prog 23 1 8 ([.pointer none]) := ⟨⟨(Tryz.prog.info? 23).getD default, .pointer none, by kernel_rfl, by kernel_rfl, by kernel_rfl, by kernel_rfl, by kernel_rfl, by kernel_rfl, by decide⟩⟩
instance : TCell Tryz.prog 23 := ⟨fun w => ⟨by kernel_rfl, by kernel_rfl⟩⟩
instance : TInt Tryz.prog 24 .i64 := ⟨Tryz.underlying24⟩
instance : TInfo Tryz.prog 24 1 8 ([.int .i64 0]) := ⟨⟨(Tryz.prog.info? 24).getD default, .int .i64 0, by kernel_rfl, by kernel_rfl, by kernel_rfl, by kernel_rfl, by kernel_rfl, by kernel_rfl, by decide⟩⟩
instance : TCell Tryz.prog 24 := ⟨fun w => ⟨by kernel_rfl, by kernel_rfl⟩⟩
instance : TPtr Tryz.prog 27 48 := ⟨Tryz.underlying27⟩
instance : TInfo Tryz.prog 27 1 8 ([.pointer none]) := ⟨⟨(Tryz.prog.info? 27).getD default, .pointer none, by kernel_rfl, by kernel_rfl, by kernel_rfl, by kernel_rfl, by kernel_rfl, by kernel_rfl, by decide⟩⟩
instance : TCell Tryz.prog 27 := ⟨fun w => ⟨by kernel_rfl, by kernel_rfl⟩⟩
instance : TInt Tryz.prog 30 .u64 := ⟨Tryz.underlying30⟩
instance : TInfo Tryz.prog 30 1 8 ([.int .u64 0]) := ⟨⟨(Tryz.prog.info? 30).getD default, .int .u64 0, by kernel_rfl, by kernel_rfl, by kernel_rfl, by kernel_rfl, by kernel_rfl, by kernel_rfl, by decide⟩⟩
instance : TCell Tryz.prog 30 := ⟨fun w => ⟨by kernel_rfl, by kernel_rfl⟩⟩
instance : TInfo Tryz.prog 32 9 96 ([.string ⟨#[]⟩, .int .u64 0, .int .u64 0, .int .u64 0, .int .u64 0, .string ⟨#[]⟩, .string ⟨#[]⟩, .int .u64 0, .bool false]) := ⟨⟨(Tryz.prog.info? 32).getD default, .agg ([.string ⟨#[]⟩, .int .u64 0, .int .u64 0, .int .u64 0, .int .u64 0, .string ⟨#[]⟩, .string ⟨#[]⟩, .int .u64 0, .bool false]).toArray, by kernel_rfl, by kernel_rfl, by kernel_rfl, by kernel_rfl, by kernel_rfl, by kernel_rfl, by decide⟩⟩
instance : TAgg Tryz.prog 32 9 := ⟨fun w => ⟨by kernel_rfl, by kernel_rfl⟩⟩
instance : TField Tryz.prog 32 0 0 := ⟨fun w => ⟨(fsOf (Tryz.prog.underlying 32)), (fsOf (Tryz.prog.underlying 32)).getD 0 default, by kernel_rfl, by kernel_rfl, by kernel_rfl, by kernel_rfl, fun a => by kernel_rfl⟩⟩
instance : TField Tryz.prog 32 1 1 := ⟨fun w => ⟨(fsOf (Tryz.prog.underlying 32)), (fsOf (Tryz.prog.underlying 32)).getD 1 default, by kernel_rfl, by kernel_rfl, by kernel_rfl, by kernel_rfl, fun a => by kernel_rfl⟩⟩
instance : TField Tryz.prog 32 2 2 := ⟨fun w => ⟨(fsOf (Tryz.prog.underlying 32)), (fsOf (Tryz.prog.underlying 32)).getD 2 default, by kernel_rfl, by kernel_rfl, by kernel_rfl, by kernel_rfl, fun a => by kernel_rfl⟩⟩
instance : TField Tryz.prog 32 3 3 := ⟨fun w => ⟨(fsOf (Tryz.prog.underlying 32)), (fsOf (Tryz.prog.underlying 32)).getD 3 default, by kernel_rfl, by kernel_rfl, by kernel_rfl, by kernel_rfl, fun a => by kernel_rfl⟩⟩
instance : TField Tryz.prog 32 4 4 := ⟨fun w => ⟨(fsOf (Tryz.prog.underlying 32)), (fsOf (Tryz.prog.underlying 32)).getD 4 default, by kernel_rfl, by kernel_rfl, by kernel_rfl, by kernel_rfl, fun a => by kernel_rfl⟩⟩
instance : TField Tryz.prog 32 5 5 := ⟨fun w => ⟨(fsOf (Tryz.prog.underlying 32)), (fsOf (Tryz.prog.underlying 32)).getD 5 default, by kernel_rfl, by kernel_rfl, by kernel_rfl, by kernel_rfl, fun a => by kernel_rfl⟩⟩
instance : TField Tryz.prog 32 6 6 := ⟨fun w => ⟨(fsOf (Tryz.prog.underlying 32)), (fsOf (Tryz.prog.underlying 32)).getD 6 default, by kernel_rfl, by kernel_rfl, by kernel_rfl, by kernel_rfl, fun a => by kernel_rfl⟩⟩
instance : TField Tryz.prog 32 7 7 := ⟨fun w => ⟨(fsOf (Tryz.prog.underlying 32)), (fsOf (Tryz.prog.underlying 32)).getD 7 default, by kernel_rfl, by kernel_rfl, by kernel_rfl, by kernel_rfl, fun a => by kernel_rfl⟩⟩
instance : TField Tryz.prog 32 8 8 := ⟨fun w => ⟨(fsOf (Tryz.prog.underlying 32)), (fsOf (Tryz.prog.underlying 32)).getD 8 default, by kernel_rfl, by kernel_rfl, by kernel_rfl, by kernel_rfl, fun a => by kernel_rfl⟩⟩
instance : TPlaces Tryz.prog 32 [(0, 1), (1, 1), (2, 1), (3, 1), (4, 1), (5, 1), (6, 1), (7, 1), (8, 1)] ([.string ⟨#[]⟩, .int .u64 0, .int .u64 0, .int .u64 0, .int .u64 0, .string ⟨#[]⟩, .string ⟨#[]⟩, .int .u64 0, .bool false]) := ⟨fun w => ⟨by kernel_rfl, (fsOf (Tryz.prog.underlying 32)), by kernel_rfl, by kernel_rfl⟩⟩
instance : TInfo Tryz.prog 34 8 88 ([.string ⟨#[]⟩, .int .u64 0, .int .u64 0, .int .u64 0, .int .u64 0, .string ⟨#[]⟩, .int .u64 0, .string ⟨#[]⟩]) := ⟨⟨(Tryz.prog.info? 34).getD default, .agg ([.string ⟨#[]⟩, .int .u64 0, .int .u64 0, .int .u64 0, .int .u64 0, .string ⟨#[]⟩, .int .u64 0, .string ⟨#[]⟩]).toArray, by kernel_rfl, by kernel_rfl, by kernel_rfl, by kernel_rfl, by kernel_rfl, by kernel_rfl, by decide⟩⟩
instance : TAgg Tryz.prog 34 8 := ⟨fun w => ⟨by kernel_rfl, by kernel_rfl⟩⟩
instance : TField Tryz.prog 34 0 0 := ⟨fun w => ⟨(fsOf (Tryz.prog.underlying 34)), (fsOf (Tryz.prog.underlying 34)).getD 0 default, by kernel_rfl, by kernel_rfl, by kernel_rfl, by kernel_rfl, fun a => by kernel_rfl⟩⟩
instance : TField Tryz.prog 34 1 1 := ⟨fun w => ⟨(fsOf (Tryz.prog.underlying 34)), (fsOf (Tryz.prog.underlying 34)).getD 1 default, by kernel_rfl, by kernel_rfl, by kernel_rfl, by kernel_rfl, fun a => by kernel_rfl⟩⟩
instance : TField Tryz.prog 34 2 2 := ⟨fun w => ⟨(fsOf (Tryz.prog.underlying 34)), (fsOf (Tryz.prog.underlying 34)).getD 2 default, by kernel_rfl, by kernel_rfl, by kernel_rfl, by kernel_rfl, fun a => by kernel_rfl⟩⟩
instance : TField Tryz.prog 34 3 3 := ⟨fun w => ⟨(fsOf (Tryz.prog.underlying 34)), (fsOf (Tryz.prog.underlying 34)).getD 3 default, by kernel_rfl, by kernel_rfl, by kernel_rfl, by kernel_rfl, fun a => by kernel_rfl⟩⟩
instance : TField Tryz.prog 34 4 4 := ⟨fun w => ⟨(fsOf (Tryz.prog.underlying 34)), (fsOf (Tryz.prog.underlying 34)).getD 4 default, by kernel_rfl, by kernel_rfl, by kernel_rfl, by kernel_rfl, fun a => by kernel_rfl⟩⟩
instance : TField Tryz.prog 34 5 5 := ⟨fun w => ⟨(fsOf (Tryz.prog.underlying 34)), (fsOf (Tryz.prog.underlying 34)).getD 5 default, by kernel_rfl, by kernel_rfl, by kernel_rfl, by kernel_rfl, fun a => by kernel_rfl⟩⟩
instance : TField Tryz.prog 34 6 6 := ⟨fun w => ⟨(fsOf (Tryz.prog.underlying 34)), (fsOf (Tryz.prog.underlying 34)).getD 6 default, by kernel_rfl, by kernel_rfl, by kernel_rfl, by kernel_rfl, fun a => by kernel_rfl⟩⟩
instance : TField Tryz.prog 34 7 7 := ⟨fun w => ⟨(fsOf (Tryz.prog.underlying 34)), (fsOf (Tryz.prog.underlying 34)).getD 7 default, by kernel_rfl, by kernel_rfl, by kernel_rfl, by kernel_rfl, fun a => by kernel_rfl⟩⟩
instance : TPlaces Tryz.prog 34 [(0, 1), (1, 1), (2, 1), (3, 1), (4, 1), (5, 1), (6, 1), (7, 1)] ([.string ⟨#[]⟩, .int .u64 0, .int .u64 0, .int .u64 0, .int .u64 0, .string ⟨#[]⟩, .int .u64 0, .string ⟨#[]⟩]) := ⟨fun w => ⟨by kernel_rfl, (fsOf (Tryz.prog.underlying 34)), by kernel_rfl, by kernel_rfl⟩⟩
instance : TInfo Tryz.prog 36 19 200 ([.int .i64 0, .string ⟨#[]⟩, .int .u64 0, .int .u64 0, .int .u64 0, .int .u64 0, .string ⟨#[]⟩, .string ⟨#[]⟩, .int .u64 0, .bool false, .int .u64 0, .string ⟨#[]⟩, .int .u64 0, .int .u64 0, .int .u64 0, .int .u64 0, .string ⟨#[]⟩, .int .u64 0, .string ⟨#[]⟩]) := ⟨⟨(Tryz.prog.info? 36).getD default, .agg ([.int .i64 0, .string ⟨#[]⟩, .int .u64 0, .int .u64 0, .int .u64 0, .int .u64 0, .string ⟨#[]⟩, .string ⟨#[]⟩, .int .u64 0, .bool false, .int .u64 0, .string ⟨#[]⟩, .int .u64 0, .int .u64 0, .int .u64 0, .int .u64 0, .string ⟨#[]⟩, .int .u64 0, .string ⟨#[]⟩]).toArray, by kernel_rfl, by kernel_rfl, by kernel_rfl, by kernel_rfl, by kernel_rfl, by kernel_rfl, by decide⟩⟩
instance : TAgg Tryz.prog 36 19 := ⟨fun w => ⟨by kernel_rfl, by kernel_rfl⟩⟩
instance : TField Tryz.prog 36 0 0 := ⟨fun w => ⟨(fsOf (Tryz.prog.underlying 36)), (fsOf (Tryz.prog.underlying 36)).getD 0 default, by kernel_rfl, by kernel_rfl, by kernel_rfl, by kernel_rfl, fun a => by kernel_rfl⟩⟩
instance : TFieldAgg Tryz.prog 36 1 1 9 := ⟨fun w => ⟨(fsOf (Tryz.prog.underlying 36)), (fsOf (Tryz.prog.underlying 36)).getD 1 default, by kernel_rfl, by kernel_rfl, by kernel_rfl, by kernel_rfl, by kernel_rfl, fun a => by kernel_rfl⟩⟩
instance : TField Tryz.prog 36 2 10 := ⟨fun w => ⟨(fsOf (Tryz.prog.underlying 36)), (fsOf (Tryz.prog.underlying 36)).getD 2 default, by kernel_rfl, by kernel_rfl, by kernel_rfl, by kernel_rfl, fun a => by kernel_rfl⟩⟩
instance : TFieldAgg Tryz.prog 36 3 11 8 := ⟨fun w => ⟨(fsOf (Tryz.prog.underlying 36)), (fsOf (Tryz.prog.underlying 36)).getD 3 default, by kernel_rfl, by kernel_rfl, by kernel_rfl, by kernel_rfl, by kernel_rfl, fun a => by kernel_rfl⟩⟩
instance : TPlaces Tryz.prog 36 [(0, 1), (1, 9), (10, 1), (11, 8)] ([.int .i64 0, .string ⟨#[]⟩, .int .u64 0, .int .u64 0, .int .u64 0, .int .u64 0, .string ⟨#[]⟩, .string ⟨#[]⟩, .int .u64 0, .bool false, .int .u64 0, .string ⟨#[]⟩, .int .u64 0, .int .u64 0, .int .u64 0, .int .u64 0, .string ⟨#[]⟩, .int .u64 0, .string ⟨#[]⟩]) := ⟨fun w => ⟨by kernel_rfl, (fsOf (Tryz.prog.underlying 36)), by kernel_rfl, by kernel_rfl⟩⟩
instance : TSlice Tryz.prog 43 55 := ⟨Tryz.underlying43⟩
instance : TInfo Tryz.prog 43 1 24 ([.slice none 0 0]) := ⟨⟨(Tryz.prog.info? 43).getD default, .slice none 0 0, by kernel_rfl, by kernel_rfl, by kernel_rfl, by kernel_rfl, by kernel_rfl, by kernel_rfl, by decide⟩⟩
instance : TCell Tryz.prog 43 := ⟨fun w => ⟨by kernel_rfl, by kernel_rfl⟩⟩
instance : TSlice Tryz.prog 45 32 := ⟨Tryz.underlying45⟩
instance : TInfo Tryz.prog 45 1 24 ([.slice none 0 0]) := ⟨⟨(Tryz.prog.info? 45).getD default, .slice none 0 0, by kernel_rfl, by kernel_rfl, by kernel_rfl, by kernel_rfl, by kernel_rfl, by kernel_rfl, by decide⟩⟩
instance : TCell Tryz.prog 45 := ⟨fun w => ⟨by kernel_rfl, by kernel_rfl⟩⟩
instance : TInfo Tryz.prog 48 4 64 ([.string ⟨#[]⟩, .string ⟨#[]⟩, .int .u64 0, .slice none 0 0]) := ⟨⟨(Tryz.prog.info? 48).getD default, .agg ([.string ⟨#[]⟩, .string ⟨#[]⟩, .int .u64 0, .slice none 0 0]).toArray, by kernel_rfl, by kernel_rfl, by kernel_rfl, by kernel_rfl, by kernel_rfl, by kernel_rfl, by decide⟩⟩
instance : TAgg Tryz.prog 48 4 := ⟨fun w => ⟨by kernel_rfl, by kernel_rfl⟩⟩
instance : TField Tryz.prog 48 0 0 := ⟨fun w => ⟨(fsOf (Tryz.prog.underlying 48)), (fsOf (Tryz.prog.underlying 48)).getD 0 default, by kernel_rfl, by kernel_rfl, by kernel_rfl, by kernel_rfl, fun a => by kernel_rfl⟩⟩
instance : TField Tryz.prog 48 1 1 := ⟨fun w => ⟨(fsOf (Tryz.prog.underlying 48)), (fsOf (Tryz.prog.underlying 48)).getD 1 default, by kernel_rfl, by kernel_rfl, by kernel_rfl, by kernel_rfl, fun a => by kernel_rfl⟩⟩
instance : TField Tryz.prog 48 2 2 := ⟨fun w => ⟨(fsOf (Tryz.prog.underlying 48)), (fsOf (Tryz.prog.underlying 48)).getD 2 default, by kernel_rfl, by kernel_rfl, by kernel_rfl, by kernel_rfl, fun a => by kernel_rfl⟩⟩
instance : TField Tryz.prog 48 3 3 := ⟨fun w => ⟨(fsOf (Tryz.prog.underlying 48)), (fsOf (Tryz.prog.underlying 48)).getD 3 default, by kernel_rfl, by kernel_rfl, by kernel_rfl, by kernel_rfl, fun a => by kernel_rfl⟩⟩
instance : TPlaces Tryz.prog 48 [(0, 1), (1, 1), (2, 1), (3, 1)] ([.string ⟨#[]⟩, .string ⟨#[]⟩, .int .u64 0, .slice none 0 0]) := ⟨fun w => ⟨by kernel_rfl, (fsOf (Tryz.prog.underlying 48)), by kernel_rfl, by kernel_rfl⟩⟩
instance : TInfo Tryz.prog 52 8 88 ([.string ⟨#[]⟩, .int .u64 0, .int .u64 0, .int .u64 0, .int .u64 0, .string ⟨#[]⟩, .int .u64 0, .string ⟨#[]⟩]) := ⟨⟨(Tryz.prog.info? 52).getD default, .agg ([.string ⟨#[]⟩, .int .u64 0, .int .u64 0, .int .u64 0, .int .u64 0, .string ⟨#[]⟩, .int .u64 0, .string ⟨#[]⟩]).toArray, by kernel_rfl, by kernel_rfl, by kernel_rfl, by kernel_rfl, by kernel_rfl, by kernel_rfl, by decide⟩⟩
instance : TAgg Tryz.prog 52 8 := ⟨fun w => ⟨by kernel_rfl, by kernel_rfl⟩⟩
instance : TField Tryz.prog 52 0 0 := ⟨fun w => ⟨(fsOf (Tryz.prog.underlying 52)), (fsOf (Tryz.prog.underlying 52)).getD 0 default, by kernel_rfl, by kernel_rfl, by kernel_rfl, by kernel_rfl, fun a => by kernel_rfl⟩⟩
instance : TField Tryz.prog 52 1 1 := ⟨fun w => ⟨(fsOf (Tryz.prog.underlying 52)), (fsOf (Tryz.prog.underlying 52)).getD 1 default, by kernel_rfl, by kernel_rfl, by kernel_rfl, by kernel_rfl, fun a => by kernel_rfl⟩⟩
instance : TField Tryz.prog 52 2 2 := ⟨fun w => ⟨(fsOf (Tryz.prog.underlying 52)), (fsOf (Tryz.prog.underlying 52)).getD 2 default, by kernel_rfl, by kernel_rfl, by kernel_rfl, by kernel_rfl, fun a => by kernel_rfl⟩⟩
instance : TField Tryz.prog 52 3 3 := ⟨fun w => ⟨(fsOf (Tryz.prog.underlying 52)), (fsOf (Tryz.prog.underlying 52)).getD 3 default, by kernel_rfl, by kernel_rfl, by kernel_rfl, by kernel_rfl, fun a => by kernel_rfl⟩⟩
instance : TField Tryz.prog 52 4 4 := ⟨fun w => ⟨(fsOf (Tryz.prog.underlying 52)), (fsOf (Tryz.prog.underlying 52)).getD 4 default, by kernel_rfl, by kernel_rfl, by kernel_rfl, by kernel_rfl, fun a => by kernel_rfl⟩⟩
instance : TField Tryz.prog 52 5 5 := ⟨fun w => ⟨(fsOf (Tryz.prog.underlying 52)), (fsOf (Tryz.prog.underlying 52)).getD 5 default, by kernel_rfl, by kernel_rfl, by kernel_rfl, by kernel_rfl, fun a => by kernel_rfl⟩⟩
instance : TField Tryz.prog 52 6 6 := ⟨fun w => ⟨(fsOf (Tryz.prog.underlying 52)), (fsOf (Tryz.prog.underlying 52)).getD 6 default, by kernel_rfl, by kernel_rfl, by kernel_rfl, by kernel_rfl, fun a => by kernel_rfl⟩⟩
instance : TField Tryz.prog 52 7 7 := ⟨fun w => ⟨(fsOf (Tryz.prog.underlying 52)), (fsOf (Tryz.prog.underlying 52)).getD 7 default, by kernel_rfl, by kernel_rfl, by kernel_rfl, by kernel_rfl, fun a => by kernel_rfl⟩⟩
instance : TPlaces Tryz.prog 52 [(0, 1), (1, 1), (2, 1), (3, 1), (4, 1), (5, 1), (6, 1), (7, 1)] ([.string ⟨#[]⟩, .int .u64 0, .int .u64 0, .int .u64 0, .int .u64 0, .string ⟨#[]⟩, .int .u64 0, .string ⟨#[]⟩]) := ⟨fun w => ⟨by kernel_rfl, (fsOf (Tryz.prog.underlying 52)), by kernel_rfl, by kernel_rfl⟩⟩
instance : TInfo Tryz.prog 55 9 96 ([.string ⟨#[]⟩, .int .u64 0, .int .u64 0, .int .u64 0, .int .u64 0, .string ⟨#[]⟩, .string ⟨#[]⟩, .int .u64 0, .bool false]) := ⟨⟨(Tryz.prog.info? 55).getD default, .agg ([.string ⟨#[]⟩, .int .u64 0, .int .u64 0, .int .u64 0, .int .u64 0, .string ⟨#[]⟩, .string ⟨#[]⟩, .int .u64 0, .bool false]).toArray, by kernel_rfl, by kernel_rfl, by kernel_rfl, by kernel_rfl, by kernel_rfl, by kernel_rfl, by decide⟩⟩
instance : TAgg Tryz.prog 55 9 := ⟨fun w => ⟨by kernel_rfl, by kernel_rfl⟩⟩
instance : TField Tryz.prog 55 0 0 := ⟨fun w => ⟨(fsOf (Tryz.prog.underlying 55)), (fsOf (Tryz.prog.underlying 55)).getD 0 default, by kernel_rfl, by kernel_rfl, by kernel_rfl, by kernel_rfl, fun a => by kernel_rfl⟩⟩
instance : TField Tryz.prog 55 1 1 := ⟨fun w => ⟨(fsOf (Tryz.prog.underlying 55)), (fsOf (Tryz.prog.underlying 55)).getD 1 default, by kernel_rfl, by kernel_rfl, by kernel_rfl, by kernel_rfl, fun a => by kernel_rfl⟩⟩
instance : TField Tryz.prog 55 2 2 := ⟨fun w => ⟨(fsOf (Tryz.prog.underlying 55)), (fsOf (Tryz.prog.underlying 55)).getD 2 default, by kernel_rfl, by kernel_rfl, by kernel_rfl, by kernel_rfl, fun a => by kernel_rfl⟩⟩
instance : TField Tryz.prog 55 3 3 := ⟨fun w => ⟨(fsOf (Tryz.prog.underlying 55)), (fsOf (Tryz.prog.underlying 55)).getD 3 default, by kernel_rfl, by kernel_rfl, by kernel_rfl, by kernel_rfl, fun a => by kernel_rfl⟩⟩
instance : TField Tryz.prog 55 4 4 := ⟨fun w => ⟨(fsOf (Tryz.prog.underlying 55)), (fsOf (Tryz.prog.underlying 55)).getD 4 default, by kernel_rfl, by kernel_rfl, by kernel_rfl, by kernel_rfl, fun a => by kernel_rfl⟩⟩
instance : TField Tryz.prog 55 5 5 := ⟨fun w => ⟨(fsOf (Tryz.prog.underlying 55)), (fsOf (Tryz.prog.underlying 55)).getD 5 default, by kernel_rfl, by kernel_rfl, by kernel_rfl, by kernel_rfl, fun a => by kernel_rfl⟩⟩
instance : TField Tryz.prog 55 6 6 := ⟨fun w => ⟨(fsOf (Tryz.prog.underlying 55)), (fsOf (Tryz.prog.underlying 55)).getD 6 default, by kernel_rfl, by kernel_rfl, by kernel_rfl, by kernel_rfl, fun a => by kernel_rfl⟩⟩
instance : TField Tryz.prog 55 7 7 := ⟨fun w => ⟨(fsOf (Tryz.prog.underlying 55)), (fsOf (Tryz.prog.underlying 55)).getD 7 default, by kernel_rfl, by kernel_rfl, by kernel_rfl, by kernel_rfl, fun a => by kernel_rfl⟩⟩
instance : TField Tryz.prog 55 8 8 := ⟨fun w => ⟨(fsOf (Tryz.prog.underlying 55)), (fsOf (Tryz.prog.underlying 55)).getD 8 default, by kernel_rfl, by kernel_rfl, by kernel_rfl, by kernel_rfl, fun a => by kernel_rfl⟩⟩
instance : TPlaces Tryz.prog 55 [(0, 1), (1, 1), (2, 1), (3, 1), (4, 1), (5, 1), (6, 1), (7, 1), (8, 1)] ([.string ⟨#[]⟩, .int .u64 0, .int .u64 0, .int .u64 0, .int .u64 0, .string ⟨#[]⟩, .string ⟨#[]⟩, .int .u64 0, .bool false]) := ⟨fun w => ⟨by kernel_rfl, (fsOf (Tryz.prog.underlying 55)), by kernel_rfl, by kernel_rfl⟩⟩
instance : TInfo Tryz.prog 60 4 64 ([.string ⟨#[]⟩, .string ⟨#[]⟩, .int .u64 0, .slice none 0 0]) := ⟨⟨(Tryz.prog.info? 60).getD default, .agg ([.string ⟨#[]⟩, .string ⟨#[]⟩, .int .u64 0, .slice none 0 0]).toArray, by kernel_rfl, by kernel_rfl, by kernel_rfl, by kernel_rfl, by kernel_rfl, by kernel_rfl, by decide⟩⟩
instance : TAgg Tryz.prog 60 4 := ⟨fun w => ⟨by kernel_rfl, by kernel_rfl⟩⟩
instance : TField Tryz.prog 60 0 0 := ⟨fun w => ⟨(fsOf (Tryz.prog.underlying 60)), (fsOf (Tryz.prog.underlying 60)).getD 0 default, by kernel_rfl, by kernel_rfl, by kernel_rfl, by kernel_rfl, fun a => by kernel_rfl⟩⟩
instance : TField Tryz.prog 60 1 1 := ⟨fun w => ⟨(fsOf (Tryz.prog.underlying 60)), (fsOf (Tryz.prog.underlying 60)).getD 1 default, by kernel_rfl, by kernel_rfl, by kernel_rfl, by kernel_rfl, fun a => by kernel_rfl⟩⟩
instance : TField Tryz.prog 60 2 2 := ⟨fun w => ⟨(fsOf (Tryz.prog.underlying 60)), (fsOf (Tryz.prog.underlying 60)).getD 2 default, by kernel_rfl, by kernel_rfl, by kernel_rfl, by kernel_rfl, fun a => by kernel_rfl⟩⟩
instance : TField Tryz.prog 60 3 3 := ⟨fun w => ⟨(fsOf (Tryz.prog.underlying 60)), (fsOf (Tryz.prog.underlying 60)).getD 3 default, by kernel_rfl, by kernel_rfl, by kernel_rfl, by kernel_rfl, fun a => by kernel_rfl⟩⟩
instance : TPlaces Tryz.prog 60 [(0, 1), (1, 1), (2, 1), (3, 1)] ([.string ⟨#[]⟩, .string ⟨#[]⟩, .int .u64 0, .slice none 0 0]) := ⟨fun w => ⟨by kernel_rfl, (fsOf (Tryz.prog.underlying 60)), by kernel_rfl, by kernel_rfl⟩⟩
instance : TInfo Tryz.prog 72 10 112 ([.string ⟨#[]⟩, .int .u64 0, .int .u64 0, .int .u64 0, .int .u64 0, .string ⟨#[]⟩, .int .u64 0, .string ⟨#[]⟩, .string ⟨#[]⟩, .int .u64 0]) := ⟨⟨(Tryz.prog.info? 72).getD default, .agg ([.string ⟨#[]⟩, .int .u64 0, .int .u64 0, .int .u64 0, .int .u64 0, .string ⟨#[]⟩, .int .u64 0, .string ⟨#[]⟩, .string ⟨#[]⟩, .int .u64 0]).toArray, by kernel_rfl, by kernel_rfl, by kernel_rfl, by kernel_rfl, by kernel_rfl, by kernel_rfl, by decide⟩⟩
instance : TAgg Tryz.prog 72 10 := ⟨fun w => ⟨by kernel_rfl, by kernel_rfl⟩⟩
instance : TFieldAgg Tryz.prog 72 0 0 8 := ⟨fun w => ⟨(fsOf (Tryz.prog.underlying 72)), (fsOf (Tryz.prog.underlying 72)).getD 0 default, by kernel_rfl, by kernel_rfl, by kernel_rfl, by kernel_rfl, by kernel_rfl, fun a => by kernel_rfl⟩⟩
instance : TField Tryz.prog 72 1 8 := ⟨fun w => ⟨(fsOf (Tryz.prog.underlying 72)), (fsOf (Tryz.prog.underlying 72)).getD 1 default, by kernel_rfl, by kernel_rfl, by kernel_rfl, by kernel_rfl, fun a => by kernel_rfl⟩⟩
instance : TField Tryz.prog 72 2 9 := ⟨fun w => ⟨(fsOf (Tryz.prog.underlying 72)), (fsOf (Tryz.prog.underlying 72)).getD 2 default, by kernel_rfl, by kernel_rfl, by kernel_rfl, by kernel_rfl, fun a => by kernel_rfl⟩⟩
instance : TPlaces Tryz.prog 72 [(0, 8), (8, 1), (9, 1)] ([.string ⟨#[]⟩, .int .u64 0, .int .u64 0, .int .u64 0, .int .u64 0, .string ⟨#[]⟩, .int .u64 0, .string ⟨#[]⟩, .string ⟨#[]⟩, .int .u64 0]) := ⟨fun w => ⟨by kernel_rfl, (fsOf (Tryz.prog.underlying 72)), by kernel_rfl, by kernel_rfl⟩⟩
instance : TInfo Tryz.prog 76 10 112 ([.string ⟨#[]⟩, .int .u64 0, .int .u64 0, .int .u64 0, .int .u64 0, .string ⟨#[]⟩, .int .u64 0, .string ⟨#[]⟩, .string ⟨#[]⟩, .int .u64 0]) := ⟨⟨(Tryz.prog.info? 76).getD default, .agg ([.string ⟨#[]⟩, .int .u64 0, .int .u64 0, .int .u64 0, .int .u64 0, .string ⟨#[]⟩, .int .u64 0, .string ⟨#[]⟩, .string ⟨#[]⟩, .int .u64 0]).toArray, by kernel_rfl, by kernel_rfl, by kernel_rfl, by kernel_rfl, by kernel_rfl, by kernel_rfl, by decide⟩⟩
instance : TAgg Tryz.prog 76 10 := ⟨fun w => ⟨by kernel_rfl, by kernel_rfl⟩⟩
instance : TFieldAgg Tryz.prog 76 0 0 8 := ⟨fun w => ⟨(fsOf (Tryz.prog.underlying 76)), (fsOf (Tryz.prog.underlying 76)).getD 0 default, by kernel_rfl, by kernel_rfl, by kernel_rfl, by kernel_rfl, by kernel_rfl, fun a => by kernel_rfl⟩⟩
instance : TField Tryz.prog 76 1 8 := ⟨fun w => ⟨(fsOf (Tryz.prog.underlying 76)), (fsOf (Tryz.prog.underlying 76)).getD 1 default, by kernel_rfl, by kernel_rfl, by kernel_rfl, by kernel_rfl, fun a => by kernel_rfl⟩⟩
instance : TField Tryz.prog 76 2 9 := ⟨fun w => ⟨(fsOf (Tryz.prog.underlying 76)), (fsOf (Tryz.prog.underlying 76)).getD 2 default, by kernel_rfl, by kernel_rfl, by kernel_rfl, by kernel_rfl, fun a => by kernel_rfl⟩⟩
instance : TPlaces Tryz.prog 76 [(0, 8), (8, 1), (9, 1)] ([.string ⟨#[]⟩, .int .u64 0, .int .u64 0, .int .u64 0, .int .u64 0, .string ⟨#[]⟩, .int .u64 0, .string ⟨#[]⟩, .string ⟨#[]⟩, .int .u64 0]) := ⟨fun w => ⟨by kernel_rfl, (fsOf (Tryz.prog.underlying 76)), by kernel_rfl, by kernel_rfl⟩⟩
instance : TPtr Tryz.prog 82 105 := ⟨Tryz.underlying82⟩
instance : TInfo Tryz.prog 82 1 8 ([.pointer none]) := ⟨⟨(Tryz.prog.info? 82).getD default, .pointer none, by kernel_rfl, by kernel_rfl, by kernel_rfl, by kernel_rfl, by kernel_rfl, by kernel_rfl, by decide⟩⟩
instance : TCell Tryz.prog 82 := ⟨fun w => ⟨by kernel_rfl, by kernel_rfl⟩⟩
instance : TInfo Tryz.prog 95 1 8 ([.nilFunc]) := ⟨⟨(Tryz.prog.info? 95).getD default, .nilFunc, by kernel_rfl, by kernel_rfl, by kernel_rfl, by kernel_rfl, by kernel_rfl, by kernel_rfl, by decide⟩⟩
instance : TCell Tryz.prog 95 := ⟨fun w => ⟨by kernel_rfl, by kernel_rfl⟩⟩
instance : TPtr Tryz.prog 100 102 := ⟨Tryz.underlying100⟩
instance : TInfo Tryz.prog 100 1 8 ([.pointer none]) := ⟨⟨(Tryz.prog.info? 100).getD default, .pointer none, by kernel_rfl, by kernel_rfl, by kernel_rfl, by kernel_rfl, by kernel_rfl, by kernel_rfl, by decide⟩⟩
instance : TCell Tryz.prog 100 := ⟨fun w => ⟨by kernel_rfl, by kernel_rfl⟩⟩
instance : TInfo Tryz.prog 102 2 16 ([.int .i64 0, .int .i64 0]) := ⟨⟨(Tryz.prog.info? 102).getD default, .agg ([.int .i64 0, .int .i64 0]).toArray, by kernel_rfl, by kernel_rfl, by kernel_rfl, by kernel_rfl, by kernel_rfl, by kernel_rfl, by decide⟩⟩
instance : TAgg Tryz.prog 102 2 := ⟨fun w => ⟨by kernel_rfl, by kernel_rfl⟩⟩
instance : TField Tryz.prog 102 0 0 := ⟨fun w => ⟨(fsOf (Tryz.prog.underlying 102)), (fsOf (Tryz.prog.underlying 102)).getD 0 default, by kernel_rfl, by kernel_rfl, by kernel_rfl, by kernel_rfl, fun a => by kernel_rfl⟩⟩
instance : TField Tryz.prog 102 1 1 := ⟨fun w => ⟨(fsOf (Tryz.prog.underlying 102)), (fsOf (Tryz.prog.underlying 102)).getD 1 default, by kernel_rfl, by kernel_rfl, by kernel_rfl, by kernel_rfl, fun a => by kernel_rfl⟩⟩
instance : TPlaces Tryz.prog 102 [(0, 1), (1, 1)] ([.int .i64 0, .int .i64 0]) := ⟨fun w => ⟨by kernel_rfl, (fsOf (Tryz.prog.underlying 102)), by kernel_rfl, by kernel_rfl⟩⟩
instance : TSlice Tryz.prog 103 9 := ⟨Tryz.underlying103⟩
instance : TInfo Tryz.prog 103 1 24 ([.slice none 0 0]) := ⟨⟨(Tryz.prog.info? 103).getD default, .slice none 0 0, by kernel_rfl, by kernel_rfl, by kernel_rfl, by kernel_rfl, by kernel_rfl, by kernel_rfl, by decide⟩⟩
instance : TCell Tryz.prog 103 := ⟨fun w => ⟨by kernel_rfl, by kernel_rfl⟩⟩
instance : TInfo Tryz.prog 105 4 64 ([.pointer none, .string ⟨#[]⟩, .slice none 0 0, .string ⟨#[]⟩]) := ⟨⟨(Tryz.prog.info? 105).getD default, .agg ([.pointer none, .string ⟨#[]⟩, .slice none 0 0, .string ⟨#[]⟩]).toArray, by kernel_rfl, by kernel_rfl, by kernel_rfl, by kernel_rfl, by kernel_rfl, by kernel_rfl, by decide⟩⟩
instance : TAgg Tryz.prog 105 4 := ⟨fun w => ⟨by kernel_rfl, by kernel_rfl⟩⟩
instance : TField Tryz.prog 105 0 0 := ⟨fun w => ⟨(fsOf (Tryz.prog.underlying 105)), (fsOf (Tryz.prog.underlying 105)).getD 0 default, by kernel_rfl, by kernel_rfl, by kernel_rfl, by kernel_rfl, fun a => by kernel_rfl⟩⟩
instance : TField Tryz.prog 105 1 1 := ⟨fun w => ⟨(fsOf (Tryz.prog.underlying 105)), (fsOf (Tryz.prog.underlying 105)).getD 1 default, by kernel_rfl, by kernel_rfl, by kernel_rfl, by kernel_rfl, fun a => by kernel_rfl⟩⟩
instance : TField Tryz.prog 105 2 2 := ⟨fun w => ⟨(fsOf (Tryz.prog.underlying 105)), (fsOf (Tryz.prog.underlying 105)).getD 2 default, by kernel_rfl, by kernel_rfl, by kernel_rfl, by kernel_rfl, fun a => by kernel_rfl⟩⟩
instance : TField Tryz.prog 105 3 3 := ⟨fun w => ⟨(fsOf (Tryz.prog.underlying 105)), (fsOf (Tryz.prog.underlying 105)).getD 3 default, by kernel_rfl, by kernel_rfl, by kernel_rfl, by kernel_rfl, fun a => by kernel_rfl⟩⟩
instance : TPlaces Tryz.prog 105 [(0, 1), (1, 1), (2, 1), (3, 1)] ([.pointer none, .string ⟨#[]⟩, .slice none 0 0, .string ⟨#[]⟩]) := ⟨fun w => ⟨by kernel_rfl, (fsOf (Tryz.prog.underlying 105)), by kernel_rfl, by kernel_rfl⟩⟩
instance : TInfo Tryz.prog 115 2 24 ([.string ⟨#[]⟩, .int .i64 0]) := ⟨⟨(Tryz.prog.info? 115).getD default, .agg ([.string ⟨#[]⟩, .int .i64 0]).toArray, by kernel_rfl, by kernel_rfl, by kernel_rfl, by kernel_rfl, by kernel_rfl, by kernel_rfl, by decide⟩⟩
instance : TAgg Tryz.prog 115 2 := ⟨fun w => ⟨by kernel_rfl, by kernel_rfl⟩⟩
instance : TField Tryz.prog 115 0 0 := ⟨fun w => ⟨(fsOf (Tryz.prog.underlying 115)), (fsOf (Tryz.prog.underlying 115)).getD 0 default, by kernel_rfl, by kernel_rfl, by kernel_rfl, by kernel_rfl, fun a => by kernel_rfl⟩⟩
instance : TField Tryz.prog 115 1 1 := ⟨fun w => ⟨(fsOf (Tryz.prog.underlying 115)), (fsOf (Tryz.prog.underlying 115)).getD 1 default, by kernel_rfl, by kernel_rfl, by kernel_rfl, by kernel_rfl, fun a => by kernel_rfl⟩⟩
instance : TPlaces Tryz.prog 115 [(0, 1), (1, 1)] ([.string ⟨#[]⟩, .int .i64 0]) := ⟨fun w => ⟨by kernel_rfl, (fsOf (Tryz.prog.underlying 115)), by kernel_rfl, by kernel_rfl⟩⟩
instance : TPtr Tryz.prog 119 115 := ⟨Tryz.underlying119⟩
instance : TInfo Tryz.prog 119 1 8 ([.pointer none]) := ⟨⟨(Tryz.prog.info? 119).getD default, .pointer none, by kernel_rfl, by kernel_rfl, by kernel_rfl, by kernel_rfl, by kernel_rfl, by kernel_rfl, by decide⟩⟩
instance : TCell Tryz.prog 119 := ⟨fun w => ⟨by kernel_rfl, by kernel_rfl⟩⟩
instance : TSlice Tryz.prog 126 5 := ⟨Tryz.underlying126⟩
instance : TInfo Tryz.prog 126 1 24 ([.slice none 0 0]) := ⟨⟨(Tryz.prog.info? 126).getD default, .slice none 0 0, by kernel_rfl, by kernel_rfl, by kernel_rfl, by kernel_rfl, by kernel_rfl, by kernel_rfl, by decide⟩⟩
instance : TCell Tryz.prog 126 := ⟨fun w => ⟨by kernel_rfl, by kernel_rfl⟩⟩
instance : TInt Tryz.prog 127 .u64 := ⟨Tryz.underlying127⟩
instance : TInfo Tryz.prog 127 1 8 ([.int .u64 0]) := ⟨⟨(Tryz.prog.info? 127).getD default, .int .u64 0, by kernel_rfl, by kernel_rfl, by kernel_rfl, by kernel_rfl, by kernel_rfl, by kernel_rfl, by decide⟩⟩
instance : TCell Tryz.prog 127 := ⟨fun w => ⟨by kernel_rfl, by kernel_rfl⟩⟩
instance : TInfo Tryz.prog 131 1 8 ([.nilFunc]) := ⟨⟨(Tryz.prog.info? 131).getD default, .nilFunc, by kernel_rfl, by kernel_rfl, by kernel_rfl, by kernel_rfl, by kernel_rfl, by kernel_rfl, by decide⟩⟩
instance : TCell Tryz.prog 131 := ⟨fun w => ⟨by kernel_rfl, by kernel_rfl⟩⟩
instance : TInfo Tryz.prog 132 1 8 ([.nilFunc]) := ⟨⟨(Tryz.prog.info? 132).getD default, .nilFunc, by kernel_rfl, by kernel_rfl, by kernel_rfl, by kernel_rfl, by kernel_rfl, by kernel_rfl, by decide⟩⟩
instance : TCell Tryz.prog 132 := ⟨fun w => ⟨by kernel_rfl, by kernel_rfl⟩⟩
instance : TSlice Tryz.prog 135 103 := ⟨Tryz.underlying135⟩
instance : TInfo Tryz.prog 135 1 24 ([.slice none 0 0]) := ⟨⟨(Tryz.prog.info? 135).getD default, .slice none 0 0, by kernel_rfl, by kernel_rfl, by kernel_rfl, by kernel_rfl, by kernel_rfl, by kernel_rfl, by decide⟩⟩
instance : TCell Tryz.prog 135 := ⟨fun w => ⟨by kernel_rfl, by kernel_rfl⟩⟩
instance : TArr Tryz.prog 138 18 3 := ⟨Tryz.underlying138⟩
instance : TInfo Tryz.prog 138 18 144 (List.replicate 18 (.int .i64 0)) := ⟨⟨(Tryz.prog.info? 138).getD default, .agg (List.replicate 18 (.int .i64 0)).toArray, by kernel_rfl, by kernel_rfl, by kernel_rfl, by kernel_rfl, by kernel_rfl, by kernel_rfl, by decide⟩⟩
instance : TAgg Tryz.prog 138 18 := ⟨fun w => ⟨by kernel_rfl, by kernel_rfl⟩⟩
instance : TSlice Tryz.prog 141 30 := ⟨Tryz.underlying141⟩
instance : TInfo Tryz.prog 141 1 24 ([.slice none 0 0]) := ⟨⟨(Tryz.prog.info? 141).getD default, .slice none 0 0, by kernel_rfl, by kernel_rfl, by kernel_rfl, by kernel_rfl, by kernel_rfl, by kernel_rfl, by decide⟩⟩
instance : TCell Tryz.prog 141 := ⟨fun w => ⟨by kernel_rfl, by kernel_rfl⟩⟩
instance : TInfo Tryz.prog 148 1 8 ([.nilFunc]) := ⟨⟨(Tryz.prog.info? 148).getD default, .nilFunc, by kernel_rfl, by kernel_rfl, by kernel_rfl, by kernel_rfl, by kernel_rfl, by kernel_rfl, by decide⟩⟩
instance : TCell Tryz.prog 148 := ⟨fun w => ⟨by kernel_rfl, by kernel_rfl⟩⟩
instance : TPtr Tryz.prog 151 153 := ⟨Tryz.underlying151⟩
instance : TInfo Tryz.prog 151 1 8 ([.pointer none]) := ⟨⟨(Tryz.prog.info? 151).getD default, .pointer none, by kernel_rfl, by kernel_rfl, by kernel_rfl, by kernel_rfl, by kernel_rfl, by kernel_rfl, by decide⟩⟩
instance : TCell Tryz.prog 151 := ⟨fun w => ⟨by kernel_rfl, by kernel_rfl⟩⟩
instance : TInfo Tryz.prog 153 2 24 ([.string ⟨#[]⟩, .int .i64 0]) := ⟨⟨(Tryz.prog.info? 153).getD default, .agg ([.string ⟨#[]⟩, .int .i64 0]).toArray, by kernel_rfl, by kernel_rfl, by kernel_rfl, by kernel_rfl, by kernel_rfl, by kernel_rfl, by decide⟩⟩
instance : TAgg Tryz.prog 153 2 := ⟨fun w => ⟨by kernel_rfl, by kernel_rfl⟩⟩
instance : TField Tryz.prog 153 0 0 := ⟨fun w => ⟨(fsOf (Tryz.prog.underlying 153)), (fsOf (Tryz.prog.underlying 153)).getD 0 default, by kernel_rfl, by kernel_rfl, by kernel_rfl, by kernel_rfl, fun a => by kernel_rfl⟩⟩
instance : TField Tryz.prog 153 1 1 := ⟨fun w => ⟨(fsOf (Tryz.prog.underlying 153)), (fsOf (Tryz.prog.underlying 153)).getD 1 default, by kernel_rfl, by kernel_rfl, by kernel_rfl, by kernel_rfl, fun a => by kernel_rfl⟩⟩
instance : TPlaces Tryz.prog 153 [(0, 1), (1, 1)] ([.string ⟨#[]⟩, .int .i64 0]) := ⟨fun w => ⟨by kernel_rfl, (fsOf (Tryz.prog.underlying 153)), by kernel_rfl, by kernel_rfl⟩⟩
instance : TInfo Tryz.prog 154 1 8 ([.nilFunc]) := ⟨⟨(Tryz.prog.info? 154).getD default, .nilFunc, by kernel_rfl, by kernel_rfl, by kernel_rfl, by kernel_rfl, by kernel_rfl, by kernel_rfl, by decide⟩⟩
instance : TCell Tryz.prog 154 := ⟨fun w => ⟨by kernel_rfl, by kernel_rfl⟩⟩
instance : TInfo Tryz.prog 156 1 8 ([.nilFunc]) := ⟨⟨(Tryz.prog.info? 156).getD default, .nilFunc, by kernel_rfl, by kernel_rfl, by kernel_rfl, by kernel_rfl, by kernel_rfl, by kernel_rfl, by decide⟩⟩
instance : TCell Tryz.prog 156 := ⟨fun w => ⟨by kernel_rfl, by kernel_rfl⟩⟩
instance : TPtr Tryz.prog 157 171 := ⟨Tryz.underlying157⟩
instance : TInfo Tryz.prog 157 1 8 ([.pointer none]) := ⟨⟨(Tryz.prog.info? 157).getD default, .pointer none, by kernel_rfl, by kernel_rfl, by kernel_rfl, by kernel_rfl, by kernel_rfl, by kernel_rfl, by decide⟩⟩
instance : TCell Tryz.prog 157 := ⟨fun w => ⟨by kernel_rfl, by kernel_rfl⟩⟩
instance : TSlice Tryz.prog 163 3 := ⟨Tryz.underlying163⟩
instance : TInfo Tryz.prog 163 1 24 ([.slice none 0 0]) := ⟨⟨(Tryz.prog.info? 163).getD default, .slice none 0 0, by kernel_rfl, by kernel_rfl, by kernel_rfl, by kernel_rfl, by kernel_rfl, by kernel_rfl, by decide⟩⟩
instance : TCell Tryz.prog 163 := ⟨fun w => ⟨by kernel_rfl, by kernel_rfl⟩⟩
instance : TInt Tryz.prog 166 .u32 := ⟨Tryz.underlying166⟩
instance : TInfo Tryz.prog 166 1 4 ([.int .u32 0]) := ⟨⟨(Tryz.prog.info? 166).getD default, .int .u32 0, by kernel_rfl, by kernel_rfl, by kernel_rfl, by kernel_rfl, by kernel_rfl, by kernel_rfl, by decide⟩⟩
instance : TCell Tryz.prog 166 := ⟨fun w => ⟨by kernel_rfl, by kernel_rfl⟩⟩
instance : TArr Tryz.prog 167 8 166 := ⟨Tryz.underlying167⟩
instance : TInfo Tryz.prog 167 8 32 (List.replicate 8 (.int .u32 0)) := ⟨⟨(Tryz.prog.info? 167).getD default, .agg (List.replicate 8 (.int .u32 0)).toArray, by kernel_rfl, by kernel_rfl, by kernel_rfl, by kernel_rfl, by kernel_rfl, by kernel_rfl, by decide⟩⟩
instance : TAgg Tryz.prog 167 8 := ⟨fun w => ⟨by kernel_rfl, by kernel_rfl⟩⟩
instance : TArr Tryz.prog 168 8 166 := ⟨Tryz.underlying168⟩
instance : TInfo Tryz.prog 168 8 32 (List.replicate 8 (.int .u32 0)) := ⟨⟨(Tryz.prog.info? 168).getD default, .agg (List.replicate 8 (.int .u32 0)).toArray, by kernel_rfl, by kernel_rfl, by kernel_rfl, by kernel_rfl, by kernel_rfl, by kernel_rfl, by decide⟩⟩
instance : TAgg Tryz.prog 168 8 := ⟨fun w => ⟨by kernel_rfl, by kernel_rfl⟩⟩
instance : TInfo Tryz.prog 171 10 56 ([.int .u32 0, .int .u32 0, .int .u32 0, .int .u32 0, .int .u32 0, .int .u32 0, .int .u32 0, .int .u32 0, .string ⟨#[]⟩, .int .i64 0]) := ⟨⟨(Tryz.prog.info? 171).getD default, .agg ([.int .u32 0, .int .u32 0, .int .u32 0, .int .u32 0, .int .u32 0, .int .u32 0, .int .u32 0, .int .u32 0, .string ⟨#[]⟩, .int .i64 0]).toArray, by kernel_rfl, by kernel_rfl, by kernel_rfl, by kernel_rfl, by kernel_rfl, by kernel_rfl, by decide⟩⟩
instance : TAgg Tryz.prog 171 10 := ⟨fun w => ⟨by kernel_rfl, by kernel_rfl⟩⟩
instance : TFieldAgg Tryz.prog 171 0 0 8 := ⟨fun w => ⟨(fsOf (Tryz.prog.underlying 171)), (fsOf (Tryz.prog.underlying 171)).getD 0 default, by kernel_rfl, by kernel_rfl, by kernel_rfl, by kernel_rfl, by kernel_rfl, fun a => by kernel_rfl⟩⟩
instance : TField Tryz.prog 171 1 8 := ⟨fun w => ⟨(fsOf (Tryz.prog.underlying 171)), (fsOf (Tryz.prog.underlying 171)).getD 1 default, by kernel_rfl, by kernel_rfl, by kernel_rfl, by kernel_rfl, fun a => by kernel_rfl⟩⟩
instance : TField Tryz.prog 171 2 9 := ⟨fun w => ⟨(fsOf (Tryz.prog.underlying 171)), (fsOf (Tryz.prog.underlying 171)).getD 2 default, by kernel_rfl, by kernel_rfl, by kernel_rfl, by kernel_rfl, fun a => by kernel_rfl⟩⟩
instance : TPlaces Tryz.prog 171 [(0, 8), (8, 1), (9, 1)] ([.int .u32 0, .int .u32 0, .int .u32 0, .int .u32 0, .int .u32 0, .int .u32 0, .int .u32 0, .int .u32 0, .string ⟨#[]⟩, .int .i64 0]) := ⟨fun w => ⟨by kernel_rfl, (fsOf (Tryz.prog.underlying 171)), by kernel_rfl, by kernel_rfl⟩⟩
instance : TSlice Tryz.prog 172 166 := ⟨Tryz.underlying172⟩
instance : TInfo Tryz.prog 172 1 24 ([.slice none 0 0]) := ⟨⟨(Tryz.prog.info? 172).getD default, .slice none 0 0, by kernel_rfl, by kernel_rfl, by kernel_rfl, by kernel_rfl, by kernel_rfl, by kernel_rfl, by decide⟩⟩
instance : TCell Tryz.prog 172 := ⟨fun w => ⟨by kernel_rfl, by kernel_rfl⟩⟩
instance : TPtr Tryz.prog 176 168 := ⟨Tryz.underlying176⟩
instance : TInfo Tryz.prog 176 1 8 ([.pointer none]) := ⟨⟨(Tryz.prog.info? 176).getD default, .pointer none, by kernel_rfl, by kernel_rfl, by kernel_rfl, by kernel_rfl, by kernel_rfl, by kernel_rfl, by decide⟩⟩
instance : TCell Tryz.prog 176 := ⟨fun w => ⟨by kernel_rfl, by kernel_rfl⟩⟩
instance : TPtr Tryz.prog 177 182 := ⟨Tryz.underlying177⟩
instance : TInfo Tryz.prog 177 1 8 ([.pointer none]) := ⟨⟨(Tryz.prog.info? 177).getD default, .pointer none, by kernel_rfl, by kernel_rfl, by kernel_rfl, by kernel_rfl, by kernel_rfl, by kernel_rfl, by decide⟩⟩
instance : TCell Tryz.prog 177 := ⟨fun w => ⟨by kernel_rfl, by kernel_rfl⟩⟩
instance : TArr Tryz.prog 182 64 166 := ⟨Tryz.underlying182⟩
instance : TInfo Tryz.prog 182 64 256 (List.replicate 64 (.int .u32 0)) := ⟨⟨(Tryz.prog.info? 182).getD default, .agg (List.replicate 64 (.int .u32 0)).toArray, by kernel_rfl, by kernel_rfl, by kernel_rfl, by kernel_rfl, by kernel_rfl, by kernel_rfl, by decide⟩⟩
instance : TAgg Tryz.prog 182 64 := ⟨fun w => ⟨by kernel_rfl, by kernel_rfl⟩⟩
instance : HasBody Tryz.prog 3 := ⟨Tryz.call3⟩
instance : HasBody Tryz.prog 4 := ⟨Tryz.call4⟩
instance : HasBody Tryz.prog 5 := ⟨Tryz.call5⟩
instance : HasBody Tryz.prog 6 := ⟨Tryz.call6⟩
instance : HasBody Tryz.prog 7 := ⟨Tryz.call7⟩
instance : HasBody Tryz.prog 8 := ⟨Tryz.call8⟩
instance : HasBody Tryz.prog 9 := ⟨Tryz.call9⟩
instance : HasBody Tryz.prog 10 := ⟨Tryz.call10⟩
instance : HasBody Tryz.prog 11 := ⟨Tryz.call11⟩
instance : HasBody Tryz.prog 12 := ⟨Tryz.call12⟩
instance : HasBody Tryz.prog 13 := ⟨Tryz.call13⟩
instance : HasBody Tryz.prog 14 := ⟨Tryz.call14⟩
instance : HasBody Tryz.prog 15 := ⟨Tryz.call15⟩
instance : HasBody Tryz.prog 16 := ⟨Tryz.call16⟩
instance : HasBody Tryz.prog 17 := ⟨Tryz.call17⟩
instance : HasBody Tryz.prog 18 := ⟨Tryz.call18⟩
instance : HasBody Tryz.prog 19 := ⟨Tryz.call19⟩
instance : HasBody Tryz.prog 20 := ⟨Tryz.call20⟩
instance : HasBody Tryz.prog 21 := ⟨Tryz.call21⟩
instance : HasBody Tryz.prog 22 := ⟨Tryz.call22⟩
instance : HasBody Tryz.prog 23 := ⟨Tryz.call23⟩
instance : HasBody Tryz.prog 24 := ⟨Tryz.call24⟩
instance : HasBody Tryz.prog 25 := ⟨Tryz.call25⟩
instance : HasBody Tryz.prog 26 := ⟨Tryz.call26⟩
instance : HasBody Tryz.prog 27 := ⟨Tryz.call27⟩
instance : HasBody Tryz.prog 28 := ⟨Tryz.call28⟩
instance : HasBody Tryz.prog 29 := ⟨Tryz.call29⟩
instance : HasBody Tryz.prog 30 := ⟨Tryz.call30⟩
instance : HasBody Tryz.prog 31 := ⟨Tryz.call31⟩
instance : HasBody Tryz.prog 32 := ⟨Tryz.call32⟩
instance : HasBody Tryz.prog 33 := ⟨Tryz.call33⟩
instance : HasBody Tryz.prog 34 := ⟨Tryz.call34⟩
instance : HasBody Tryz.prog 35 := ⟨Tryz.call35⟩
instance : HasBody Tryz.prog 36 := ⟨Tryz.call36⟩
instance : HasBody Tryz.prog 37 := ⟨Tryz.call37⟩
instance : HasBody Tryz.prog 38 := ⟨Tryz.call38⟩
instance : HasBody Tryz.prog 39 := ⟨Tryz.call39⟩
instance : HasBody Tryz.prog 40 := ⟨Tryz.call40⟩
instance : HasBody Tryz.prog 41 := ⟨Tryz.call41⟩
instance : HasBody Tryz.prog 42 := ⟨Tryz.call42⟩
instance : HasBody Tryz.prog 43 := ⟨Tryz.call43⟩
instance : HasBody Tryz.prog 44 := ⟨Tryz.call44⟩
instance : HasBody Tryz.prog 45 := ⟨Tryz.call45⟩
instance : HasBody Tryz.prog 46 := ⟨Tryz.call46⟩
instance : HasBody Tryz.prog 47 := ⟨Tryz.call47⟩
instance : HasBody Tryz.prog 48 := ⟨Tryz.call48⟩
instance : HasBody Tryz.prog 49 := ⟨Tryz.call49⟩
instance : HasBody Tryz.prog 50 := ⟨Tryz.call50⟩
instance : HasBody Tryz.prog 51 := ⟨Tryz.call51⟩
instance : HasBody Tryz.prog 52 := ⟨Tryz.call52⟩
instance : HasBody Tryz.prog 53 := ⟨Tryz.call53⟩
instance : HasBody Tryz.prog 54 := ⟨Tryz.call54⟩
instance : HasBody Tryz.prog 55 := ⟨Tryz.call55⟩
instance : HasBody Tryz.prog 56 := ⟨Tryz.call56⟩
instance : HasBody Tryz.prog 57 := ⟨Tryz.call57⟩
instance : HasBody Tryz.prog 58 := ⟨Tryz.call58⟩
instance : HasBody Tryz.prog 59 := ⟨Tryz.call59⟩
instance : HasBody Tryz.prog 60 := ⟨Tryz.call60⟩
instance : HasBody Tryz.prog 61 := ⟨Tryz.call61⟩
instance : HasBody Tryz.prog 62 := ⟨Tryz.call62⟩
instance : HasBody Tryz.prog 63 := ⟨Tryz.call63⟩
instance : HasBody Tryz.prog 64 := ⟨Tryz.call64⟩
instance : HasBody Tryz.prog 65 := ⟨Tryz.call65⟩
instance : HasBody Tryz.prog 66 := ⟨Tryz.call66⟩
instance : HasBody Tryz.prog 67 := ⟨Tryz.call67⟩
instance : HasBody Tryz.prog 68 := ⟨Tryz.call68⟩
instance : HasBody Tryz.prog 69 := ⟨Tryz.call69⟩
instance : HasBody Tryz.prog 70 := ⟨Tryz.call70⟩
instance : HasBody Tryz.prog 71 := ⟨Tryz.call71⟩
instance : HasBody Tryz.prog 72 := ⟨Tryz.call72⟩
instance : HasBody Tryz.prog 73 := ⟨Tryz.call73⟩
instance : HasBody Tryz.prog 74 := ⟨Tryz.call74⟩
instance : HasBody Tryz.prog 75 := ⟨Tryz.call75⟩
instance : HasBody Tryz.prog 76 := ⟨Tryz.call76⟩
instance : HasBody Tryz.prog 77 := ⟨Tryz.call77⟩
instance : HasBody Tryz.prog 78 := ⟨Tryz.call78⟩
instance : HasBody Tryz.prog 79 := ⟨Tryz.call79⟩
instance : HasBody Tryz.prog 80 := ⟨Tryz.call80⟩
instance : HasBody Tryz.prog 81 := ⟨Tryz.call81⟩
instance : HasBody Tryz.prog 82 := ⟨Tryz.call82⟩
instance : HasBody Tryz.prog 83 := ⟨Tryz.call83⟩
instance : HasBody Tryz.prog 84 := ⟨Tryz.call84⟩
instance : HasBody Tryz.prog 85 := ⟨Tryz.call85⟩
instance : HasBody Tryz.prog 86 := ⟨Tryz.call86⟩
instance : HasBody Tryz.prog 87 := ⟨Tryz.call87⟩
instance : HasBody Tryz.prog 88 := ⟨Tryz.call88⟩
instance : HasBody Tryz.prog 89 := ⟨Tryz.call89⟩
instance : HasBody Tryz.prog 90 := ⟨Tryz.call90⟩
instance : HasBody Tryz.prog 91 := ⟨Tryz.call91⟩
instance : HasBody Tryz.prog 92 := ⟨Tryz.call92⟩
instance : HasBody Tryz.prog 93 := ⟨Tryz.call93⟩
instance : HasBody Tryz.prog 94 := ⟨Tryz.call94⟩
instance : HasBody Tryz.prog 95 := ⟨Tryz.call95⟩
instance : HasBody Tryz.prog 96 := ⟨Tryz.call96⟩
instance : HasBody Tryz.prog 97 := ⟨Tryz.call97⟩
instance : HasBody Tryz.prog 98 := ⟨Tryz.call98⟩
instance : HasBody Tryz.prog 99 := ⟨Tryz.call99⟩
instance : HasBody Tryz.prog 100 := ⟨Tryz.call100⟩
instance : HasBody Tryz.prog 101 := ⟨Tryz.call101⟩
instance : HasBody Tryz.prog 102 := ⟨Tryz.call102⟩
instance : HasBody Tryz.prog 103 := ⟨Tryz.call103⟩
instance : HasBody Tryz.prog 104 := ⟨Tryz.call104⟩
instance : HasBody Tryz.prog 105 := ⟨Tryz.call105⟩
instance : HasBody Tryz.prog 106 := ⟨Tryz.call106⟩
instance : HasBody Tryz.prog 107 := ⟨Tryz.call107⟩
instance : HasBody Tryz.prog 108 := ⟨Tryz.call108⟩
instance : HasBody Tryz.prog 109 := ⟨Tryz.call109⟩
instance : HasBody Tryz.prog 110 := ⟨Tryz.call110⟩
instance : HasBody Tryz.prog 111 := ⟨Tryz.call111⟩
instance : HasBody Tryz.prog 112 := ⟨Tryz.call112⟩
instance : HasBody Tryz.prog 113 := ⟨Tryz.call113⟩
instance : HasBody Tryz.prog 114 := ⟨Tryz.call114⟩
instance : HasBody Tryz.prog 115 := ⟨Tryz.call115⟩
instance : HasBody Tryz.prog 116 := ⟨Tryz.call116⟩
instance : HasBody Tryz.prog 117 := ⟨Tryz.call117⟩
instance : HasBody Tryz.prog 118 := ⟨Tryz.call118⟩
instance : HasBody Tryz.prog 119 := ⟨Tryz.call119⟩
instance : HasBody Tryz.prog 120 := ⟨Tryz.call120⟩
instance : HasBody Tryz.prog 121 := ⟨Tryz.call121⟩
instance : HasBody Tryz.prog 122 := ⟨Tryz.call122⟩
instance : HasBody Tryz.prog 123 := ⟨Tryz.call123⟩
instance : HasBody Tryz.prog 124 := ⟨Tryz.call124⟩
instance : HasBody Tryz.prog 125 := ⟨Tryz.call125⟩
instance : HasBody Tryz.prog 126 := ⟨Tryz.call126⟩
instance : HasBody Tryz.prog 127 := ⟨Tryz.call127⟩
instance : HasBody Tryz.prog 128 := ⟨Tryz.call128⟩
instance : HasBody Tryz.prog 129 := ⟨Tryz.call129⟩
instance : HasBody Tryz.prog 130 := ⟨Tryz.call130⟩
instance : HasBody Tryz.prog 131 := ⟨Tryz.call131⟩
instance : HasBody Tryz.prog 132 := ⟨Tryz.call132⟩
instance : HasBody Tryz.prog 133 := ⟨Tryz.call133⟩
instance : HasBody Tryz.prog 134 := ⟨Tryz.call134⟩
instance : HasBody Tryz.prog 135 := ⟨Tryz.call135⟩
instance : HasBody Tryz.prog 136 := ⟨Tryz.call136⟩
instance : HasBody Tryz.prog 137 := ⟨Tryz.call137⟩
instance : HasBody Tryz.prog 138 := ⟨Tryz.call138⟩
instance : HasBody Tryz.prog 139 := ⟨Tryz.call139⟩
instance : HasBody Tryz.prog 140 := ⟨Tryz.call140⟩
end Go.Proofs.YtghomncegjamfaaGreat
