/- The types and functions of this translation, as instances for the calculus. Written by program. -/
import Derived.Test.YtddpoigfliaklaaGreatChecked
import Derived.Test.YtddpoigfliaklaaGreatJf
namespace Go.Proofs.YtddpoigfliaklaaGreat
set_option maxRecDepth 100000
instance : Mixed Tryz.prog := ⟨by kernel_rfl⟩
instance : TInt Tryz.prog 3 .i64 := ⟨Tryz.underlying3⟩
instance : TInfo Tryz.prog 3 1 8 ([.int .i64 0]) := ⟨⟨(Tryz.prog.info? 3).getD default, .int .i64 0, by kernel_rfl, by kernel_rfl, by kernel_rfl, by kernel_rfl, by kernel_rfl, by kernel_rfl, by decide⟩⟩
instance : TCell Tryz.prog 3 := ⟨fun w => ⟨by kernel_rfl, by kernel_rfl⟩⟩
instance : TBool Tryz.prog 4 := ⟨Tryz.underlying4⟩
instance : TInfo Tryz.prog 4 1 1 ([.bool false]) := ⟨⟨(Tryz.prog.info? 4).getD default, .bool false, by kernel_rfl, by kernel_rfl, by kernel_rfl, by kernel_rfl, by kernel_rfl, by kernel_rfl, by decide⟩⟩
instance : TCell Tryz.prog 4 := ⟨fun w => ⟨by kernel_rfl, by kernel_rfl⟩⟩
instance : TInt Tryz.prog 5 .u8 := ⟨Tryz.underlying5⟩
instance : TInfo Tryz.prog 5 1 1 ([.int .u8 0]) := ⟨⟨(Tryz.prog.info? 5).getD default, .int .u8 0, by kernel_rfl, by kernel_rfl, by kernel_rfl, by kernel_rfl, by kernel_rfl, by kernel_rfl, by decide⟩⟩
instance : TCell Tryz.prog 5 := ⟨fun w => ⟨by kernel_rfl, by kernel_rfl⟩⟩
instance : TStr Tryz.prog 9 := ⟨Tryz.underlying9⟩
instance : TInfo Tryz.prog 9 1 16 ([.string ⟨#[]⟩]) := ⟨⟨(Tryz.prog.info? 9).getD default, .string ⟨#[]⟩, by kernel_rfl, by kernel_rfl, by kernel_rfl, by kernel_rfl, by kernel_rfl, by kernel_rfl, by decide⟩⟩
instance : TCell Tryz.prog 9 := ⟨fun w => ⟨by kernel_rfl, by kernel_rfl⟩⟩
instance : TInt Tryz.prog 22 .u64 := ⟨Tryz.underlying22⟩
instance : TInfo Tryz.prog 22 1 8 ([.int .u64 0]) := ⟨⟨(Tryz.prog.info? 22).getD default, .int .u64 0, by kernel_rfl, by kernel_rfl, by kernel_rfl, by kernel_rfl, by kernel_rfl, by kernel_rfl, by decide⟩⟩
instance : TCell Tryz.prog 22 := ⟨fun w => ⟨by kernel_rfl, by kernel_rfl⟩⟩
instance : TInfo Tryz.prog 24 8 88 ([.string ⟨#[]⟩, .int .u64 0, .int .u64 0, .int .u64 0, .int .u64 0, .string ⟨#[]⟩, .int .u64 0, .string ⟨#[]⟩]) := ⟨⟨(Tryz.prog.info? 24).getD default, .agg ([.string ⟨#[]⟩, .int .u64 0, .int .u64 0, .int .u64 0, .int .u64 0, .string ⟨#[]⟩, .int .u64 0, .string ⟨#[]⟩]).toArray, by kernel_rfl, by kernel_rfl, by kernel_rfl, by kernel_rfl, by kernel_rfl, by kernel_rfl, by decide⟩⟩
instance : TAgg Tryz.prog 24 8 := ⟨fun w => ⟨by kernel_rfl, by kernel_rfl⟩⟩
instance : TField Tryz.prog 24 0 0 := ⟨fun w => ⟨(fsOf (Tryz.prog.underlying 24)), (fsOf (Tryz.prog.underlying 24)).getD 0 default, by kernel_rfl, by kernel_rfl, by kernel_rfl, by kernel_rfl, fun a => by kernel_rfl⟩⟩
instance : TField Tryz.prog 24 1 1 := ⟨fun w => ⟨(fsOf (Tryz.prog.underlying 24)), (fsOf (Tryz.prog.underlying 24)).getD 1 default, by kernel_rfl, by kernel_rfl, by kernel_rfl, by kernel_rfl, fun a => by kernel_rfl⟩⟩
instance : TField Tryz.prog 24 2 2 := ⟨fun w => ⟨(fsOf (Tryz.prog.underlying 24)), (fsOf (Tryz.prog.underlying 24)).getD 2 default, by kernel_rfl, by kernel_rfl, by kernel_rfl, by kernel_rfl, fun a => by kernel_rfl⟩⟩
instance : TField Tryz.prog 24 3 3 := ⟨fun w => ⟨(fsOf (Tryz.prog.underlying 24)), (fsOf (Tryz.prog.underlying 24)).getD 3 default, by kernel_rfl, by kernel_rfl, by kernel_rfl, by kernel_rfl, fun a => by kernel_rfl⟩⟩
instance : TField Tryz.prog 24 4 4 := ⟨fun w => ⟨(fsOf (Tryz.prog.underlying 24)), (fsOf (Tryz.prog.underlying 24)).getD 4 default, by kernel_rfl, by kernel_rfl, by kernel_rfl, by kernel_rfl, fun a => by kernel_rfl⟩⟩
instance : TField Tryz.prog 24 5 5 := ⟨fun w => ⟨(fsOf (Tryz.prog.underlying 24)), (fsOf (Tryz.prog.underlying 24)).getD 5 default, by kernel_rfl, by kernel_rfl, by kernel_rfl, by kernel_rfl, fun a => by kernel_rfl⟩⟩
instance : TField Tryz.prog 24 6 6 := ⟨fun w => ⟨(fsOf (Tryz.prog.underlying 24)), (fsOf (Tryz.prog.underlying 24)).getD 6 default, by kernel_rfl, by kernel_rfl, by kernel_rfl, by kernel_rfl, fun a => by kernel_rfl⟩⟩
instance : TField Tryz.prog 24 7 7 := ⟨fun w => ⟨(fsOf (Tryz.prog.underlying 24)), (fsOf (Tryz.prog.underlying 24)).getD 7 default, by kernel_rfl, by kernel_rfl, by kernel_rfl, by kernel_rfl, fun a => by kernel_rfl⟩⟩
instance : TPlaces Tryz.prog 24 [(0, 1), (1, 1), (2, 1), (3, 1), (4, 1), (5, 1), (6, 1), (7, 1)] ([.string ⟨#[]⟩, .int .u64 0, .int .u64 0, .int .u64 0, .int .u64 0, .string ⟨#[]⟩, .int .u64 0, .string ⟨#[]⟩]) := ⟨fun w => ⟨by kernel_rfl, (fsOf (Tryz.prog.underlying 24)), by kernel_rfl, by kernel_rfl⟩⟩
instance : TInfo Tryz.prog 26 10 112 ([.string ⟨#[]⟩, .int .u64 0, .int .u64 0, .int .u64 0, .int .u64 0, .string ⟨#[]⟩, .int .u64 0, .string ⟨#[]⟩, .string ⟨#[]⟩, .int .u64 0]) := ⟨⟨(Tryz.prog.info? 26).getD default, .agg ([.string ⟨#[]⟩, .int .u64 0, .int .u64 0, .int .u64 0, .int .u64 0, .string ⟨#[]⟩, .int .u64 0, .string ⟨#[]⟩, .string ⟨#[]⟩, .int .u64 0]).toArray, by kernel_rfl, by kernel_rfl, by kernel_rfl, by kernel_rfl, by kernel_rfl, by kernel_rfl, by decide⟩⟩
instance : TAgg Tryz.prog 26 10 := ⟨fun w => ⟨by kernel_rfl, by kernel_rfl⟩⟩
instance : TFieldAgg Tryz.prog 26 0 0 8 := ⟨fun w => ⟨(fsOf (Tryz.prog.underlying 26)), (fsOf (Tryz.prog.underlying 26)).getD 0 default, by kernel_rfl, by kernel_rfl, by kernel_rfl, by kernel_rfl, by kernel_rfl, fun a => by kernel_rfl⟩⟩
instance : TField Tryz.prog 26 1 8 := ⟨fun w => ⟨(fsOf (Tryz.prog.underlying 26)), (fsOf (Tryz.prog.underlying 26)).getD 1 default, by kernel_rfl, by kernel_rfl, by kernel_rfl, by kernel_rfl, fun a => by kernel_rfl⟩⟩
instance : TField Tryz.prog 26 2 9 := ⟨fun w => ⟨(fsOf (Tryz.prog.underlying 26)), (fsOf (Tryz.prog.underlying 26)).getD 2 default, by kernel_rfl, by kernel_rfl, by kernel_rfl, by kernel_rfl, fun a => by kernel_rfl⟩⟩
instance : TPlaces Tryz.prog 26 [(0, 8), (8, 1), (9, 1)] ([.string ⟨#[]⟩, .int .u64 0, .int .u64 0, .int .u64 0, .int .u64 0, .string ⟨#[]⟩, .int .u64 0, .string ⟨#[]⟩, .string ⟨#[]⟩, .int .u64 0]) := ⟨fun w => ⟨by kernel_rfl, (fsOf (Tryz.prog.underlying 26)), by kernel_rfl, by kernel_rfl⟩⟩
instance : TInt Tryz.prog 28 .i64 := ⟨Tryz.underlying28⟩
instance : TInfo Tryz.prog 28 1 8 ([.int .i64 0]) := ⟨⟨(Tryz.prog.info? 28).getD default, .int .i64 0, by kernel_rfl, by kernel_rfl, by kernel_rfl, by kernel_rfl, by kernel_rfl, by kernel_rfl, by decide⟩⟩
instance : TCell Tryz.prog 28 := ⟨fun w => ⟨by kernel_rfl, by kernel_rfl⟩⟩
instance : TInfo Tryz.prog 32 8 88 ([.string ⟨#[]⟩, .int .u64 0, .int .u64 0, .int .u64 0, .int .u64 0, .string ⟨#[]⟩, .int .u64 0, .string ⟨#[]⟩]) := ⟨⟨(Tryz.prog.info? 32).getD default, .agg ([.string ⟨#[]⟩, .int .u64 0, .int .u64 0, .int .u64 0, .int .u64 0, .string ⟨#[]⟩, .int .u64 0, .string ⟨#[]⟩]).toArray, by kernel_rfl, by kernel_rfl, by kernel_rfl, by kernel_rfl, by kernel_rfl, by kernel_rfl, by decide⟩⟩
instance : TAgg Tryz.prog 32 8 := ⟨fun w => ⟨by kernel_rfl, by kernel_rfl⟩⟩
instance : TField Tryz.prog 32 0 0 := ⟨fun w => ⟨(fsOf (Tryz.prog.underlying 32)), (fsOf (Tryz.prog.underlying 32)).getD 0 default, by kernel_rfl, by kernel_rfl, by kernel_rfl, by kernel_rfl, fun a => by kernel_rfl⟩⟩
instance : TField Tryz.prog 32 1 1 := ⟨fun w => ⟨(fsOf (Tryz.prog.underlying 32)), (fsOf (Tryz.prog.underlying 32)).getD 1 default, by kernel_rfl, by kernel_rfl, by kernel_rfl, by kernel_rfl, fun a => by kernel_rfl⟩⟩
instance : TField Tryz.prog 32 2 2 := ⟨fun w => ⟨(fsOf (Tryz.prog.underlying 32)), (fsOf (Tryz.prog.underlying 32)).getD 2 default, by kernel_rfl, by kernel_rfl, by kernel_rfl, by kernel_rfl, fun a => by kernel_rfl⟩⟩
instance : TField Tryz.prog 32 3 3 := ⟨fun w => ⟨(fsOf (Tryz.prog.underlying 32)), (fsOf (Tryz.prog.underlying 32)).getD 3 default, by kernel_rfl, by kernel_rfl, by kernel_rfl, by kernel_rfl, fun a => by kernel_rfl⟩⟩
instance : TField Tryz.prog 32 4 4 := ⟨fun w => ⟨(fsOf (Tryz.prog.underlying 32)), (fsOf (Tryz.prog.underlying 32)).getD 4 default, by kernel_rfl, by kernel_rfl, by kernel_rfl, by kernel_rfl, fun a => by kernel_rfl⟩⟩
instance : TField Tryz.prog 32 5 5 := ⟨fun w => ⟨(fsOf (Tryz.prog.underlying 32)), (fsOf (Tryz.prog.underlying 32)).getD 5 default, by kernel_rfl, by kernel_rfl, by kernel_rfl, by kernel_rfl, fun a => by kernel_rfl⟩⟩
instance : TField Tryz.prog 32 6 6 := ⟨fun w => ⟨(fsOf (Tryz.prog.underlying 32)), (fsOf (Tryz.prog.underlying 32)).getD 6 default, by kernel_rfl, by kernel_rfl, by kernel_rfl, by kernel_rfl, fun a => by kernel_rfl⟩⟩
instance : TField Tryz.prog 32 7 7 := ⟨fun w => ⟨(fsOf (Tryz.prog.underlying 32)), (fsOf (Tryz.prog.underlying 32)).getD 7 default, by kernel_rfl, by kernel_rfl, by kernel_rfl, by kernel_rfl, fun a => by kernel_rfl⟩⟩
instance : TPlaces Tryz.prog 32 [(0, 1), (1, 1), (2, 1), (3, 1), (4, 1), (5, 1), (6, 1), (7, 1)] ([.string ⟨#[]⟩, .int .u64 0, .int .u64 0, .int .u64 0, .int .u64 0, .string ⟨#[]⟩, .int .u64 0, .string ⟨#[]⟩]) := ⟨fun w => ⟨by kernel_rfl, (fsOf (Tryz.prog.underlying 32)), by kernel_rfl, by kernel_rfl⟩⟩
instance : TInfo Tryz.prog 34 10 112 ([.string ⟨#[]⟩, .int .u64 0, .int .u64 0, .int .u64 0, .int .u64 0, .string ⟨#[]⟩, .int .u64 0, .string ⟨#[]⟩, .string ⟨#[]⟩, .int .u64 0]) := ⟨⟨(Tryz.prog.info? 34).getD default, .agg ([.string ⟨#[]⟩, .int .u64 0, .int .u64 0, .int .u64 0, .int .u64 0, .string ⟨#[]⟩, .int .u64 0, .string ⟨#[]⟩, .string ⟨#[]⟩, .int .u64 0]).toArray, by kernel_rfl, by kernel_rfl, by kernel_rfl, by kernel_rfl, by kernel_rfl, by kernel_rfl, by decide⟩⟩
instance : TAgg Tryz.prog 34 10 := ⟨fun w => ⟨by kernel_rfl, by kernel_rfl⟩⟩
instance : TFieldAgg Tryz.prog 34 0 0 8 := ⟨fun w => ⟨(fsOf (Tryz.prog.underlying 34)), (fsOf (Tryz.prog.underlying 34)).getD 0 default, by kernel_rfl, by kernel_rfl, by kernel_rfl, by kernel_rfl, by kernel_rfl, fun a => by kernel_rfl⟩⟩
instance : TField Tryz.prog 34 1 8 := ⟨fun w => ⟨(fsOf (Tryz.prog.underlying 34)), (fsOf (Tryz.prog.underlying 34)).getD 1 default, by kernel_rfl, by kernel_rfl, by kernel_rfl, by kernel_rfl, fun a => by kernel_rfl⟩⟩
instance : TField Tryz.prog 34 2 9 := ⟨fun w => ⟨(fsOf (Tryz.prog.underlying 34)), (fsOf (Tryz.prog.underlying 34)).getD 2 default, by kernel_rfl, by kernel_rfl, by kernel_rfl, by kernel_rfl, fun a => by kernel_rfl⟩⟩
instance : TPlaces Tryz.prog 34 [(0, 8), (8, 1), (9, 1)] ([.string ⟨#[]⟩, .int .u64 0, .int .u64 0, .int .u64 0, .int .u64 0, .string ⟨#[]⟩, .int .u64 0, .string ⟨#[]⟩, .string ⟨#[]⟩, .int .u64 0]) := ⟨fun w => ⟨by kernel_rfl, (fsOf (Tryz.prog.underlying 34)), by kernel_rfl, by kernel_rfl⟩⟩
instance : TSlice Tryz.prog 44 26 := ⟨Tryz.underlying44⟩
instance : TInfo Tryz.prog 44 1 24 ([.slice none 0 0]) := ⟨⟨(Tryz.prog.info? 44).getD default, .slice none 0 0, by kernel_rfl, by kernel_rfl, by kernel_rfl, by kernel_rfl, by kernel_rfl, by kernel_rfl, by decide⟩⟩
instance : TCell Tryz.prog 44 := ⟨fun w => ⟨by kernel_rfl, by kernel_rfl⟩⟩
instance : TInfo Tryz.prog 46 4 64 ([.int .u64 0, .string ⟨#[]⟩, .string ⟨#[]⟩, .slice none 0 0]) := ⟨⟨(Tryz.prog.info? 46).getD default, .agg ([.int .u64 0, .string ⟨#[]⟩, .string ⟨#[]⟩, .slice none 0 0]).toArray, by kernel_rfl, by kernel_rfl, by kernel_rfl, by kernel_rfl, by kernel_rfl, by kernel_rfl, by decide⟩⟩
instance : TAgg Tryz.prog 46 4 := ⟨fun w => ⟨by kernel_rfl, by kernel_rfl⟩⟩
instance : TField Tryz.prog 46 0 0 := ⟨fun w => ⟨(fsOf (Tryz.prog.underlying 46)), (fsOf (Tryz.prog.underlying 46)).getD 0 default, by kernel_rfl, by kernel_rfl, by kernel_rfl, by kernel_rfl, fun a => by kernel_rfl⟩⟩
instance : TField Tryz.prog 46 1 1 := ⟨fun w => ⟨(fsOf (Tryz.prog.underlying 46)), (fsOf (Tryz.prog.underlying 46)).getD 1 default, by kernel_rfl, by kernel_rfl, by kernel_rfl, by kernel_rfl, fun a => by kernel_rfl⟩⟩
instance : TField Tryz.prog 46 2 2 := ⟨fun w => ⟨(fsOf (Tryz.prog.underlying 46)), (fsOf (Tryz.prog.underlying 46)).getD 2 default, by kernel_rfl, by kernel_rfl, by kernel_rfl, by kernel_rfl, fun a => by kernel_rfl⟩⟩
instance : TField Tryz.prog 46 3 3 := ⟨fun w => ⟨(fsOf (Tryz.prog.underlying 46)), (fsOf (Tryz.prog.underlying 46)).getD 3 default, by kernel_rfl, by kernel_rfl, by kernel_rfl, by kernel_rfl, fun a => by kernel_rfl⟩⟩
instance : TPlaces Tryz.prog 46 [(0, 1), (1, 1), (2, 1), (3, 1)] ([.int .u64 0, .string ⟨#[]⟩, .string ⟨#[]⟩, .slice none 0 0]) := ⟨fun w => ⟨by kernel_rfl, (fsOf (Tryz.prog.underlying 46)), by kernel_rfl, by kernel_rfl⟩⟩
instance : TSlice Tryz.prog 50 34 := ⟨Tryz.underlying50⟩
instance : TInfo Tryz.prog 50 1 24 ([.slice none 0 0]) := ⟨⟨(Tryz.prog.info? 50).getD default, .slice none 0 0, by kernel_rfl, by kernel_rfl, by kernel_rfl, by kernel_rfl, by kernel_rfl, by kernel_rfl, by decide⟩⟩
instance : TCell Tryz.prog 50 := ⟨fun w => ⟨by kernel_rfl, by kernel_rfl⟩⟩
instance : TInfo Tryz.prog 52 4 64 ([.int .u64 0, .string ⟨#[]⟩, .string ⟨#[]⟩, .slice none 0 0]) := ⟨⟨(Tryz.prog.info? 52).getD default, .agg ([.int .u64 0, .string ⟨#[]⟩, .string ⟨#[]⟩, .slice none 0 0]).toArray, by kernel_rfl, by kernel_rfl, by kernel_rfl, by kernel_rfl, by kernel_rfl, by kernel_rfl, by decide⟩⟩
instance : TAgg Tryz.prog 52 4 := ⟨fun w => ⟨by kernel_rfl, by kernel_rfl⟩⟩
instance : TField Tryz.prog 52 0 0 := ⟨fun w => ⟨(fsOf (Tryz.prog.underlying 52)), (fsOf (Tryz.prog.underlying 52)).getD 0 default, by kernel_rfl, by kernel_rfl, by kernel_rfl, by kernel_rfl, fun a => by kernel_rfl⟩⟩
instance : TField Tryz.prog 52 1 1 := ⟨fun w => ⟨(fsOf (Tryz.prog.underlying 52)), (fsOf (Tryz.prog.underlying 52)).getD 1 default, by kernel_rfl, by kernel_rfl, by kernel_rfl, by kernel_rfl, fun a => by kernel_rfl⟩⟩
instance : TField Tryz.prog 52 2 2 := ⟨fun w => ⟨(fsOf (Tryz.prog.underlying 52)), (fsOf (Tryz.prog.underlying 52)).getD 2 default, by kernel_rfl, by kernel_rfl, by kernel_rfl, by kernel_rfl, fun a => by kernel_rfl⟩⟩
instance : TField Tryz.prog 52 3 3 := ⟨fun w => ⟨(fsOf (Tryz.prog.underlying 52)), (fsOf (Tryz.prog.underlying 52)).getD 3 default, by kernel_rfl, by kernel_rfl, by kernel_rfl, by kernel_rfl, fun a => by kernel_rfl⟩⟩
instance : TPlaces Tryz.prog 52 [(0, 1), (1, 1), (2, 1), (3, 1)] ([.int .u64 0, .string ⟨#[]⟩, .string ⟨#[]⟩, .slice none 0 0]) := ⟨fun w => ⟨by kernel_rfl, (fsOf (Tryz.prog.underlying 52)), by kernel_rfl, by kernel_rfl⟩⟩
instance : TInfo Tryz.prog 65 5 64 ([.string ⟨#[]⟩, .string ⟨#[]⟩, .string ⟨#[]⟩, .int .u64 0, .int .i64 0]) := ⟨⟨(Tryz.prog.info? 65).getD default, .agg ([.string ⟨#[]⟩, .string ⟨#[]⟩, .string ⟨#[]⟩, .int .u64 0, .int .i64 0]).toArray, by kernel_rfl, by kernel_rfl, by kernel_rfl, by kernel_rfl, by kernel_rfl, by kernel_rfl, by decide⟩⟩
instance : TAgg Tryz.prog 65 5 := ⟨fun w => ⟨by kernel_rfl, by kernel_rfl⟩⟩
instance : TField Tryz.prog 65 0 0 := ⟨fun w => ⟨(fsOf (Tryz.prog.underlying 65)), (fsOf (Tryz.prog.underlying 65)).getD 0 default, by kernel_rfl, by kernel_rfl, by kernel_rfl, by kernel_rfl, fun a => by kernel_rfl⟩⟩
instance : TField Tryz.prog 65 1 1 := ⟨fun w => ⟨(fsOf (Tryz.prog.underlying 65)), (fsOf (Tryz.prog.underlying 65)).getD 1 default, by kernel_rfl, by kernel_rfl, by kernel_rfl, by kernel_rfl, fun a => by kernel_rfl⟩⟩
instance : TField Tryz.prog 65 2 2 := ⟨fun w => ⟨(fsOf (Tryz.prog.underlying 65)), (fsOf (Tryz.prog.underlying 65)).getD 2 default, by kernel_rfl, by kernel_rfl, by kernel_rfl, by kernel_rfl, fun a => by kernel_rfl⟩⟩
instance : TField Tryz.prog 65 3 3 := ⟨fun w => ⟨(fsOf (Tryz.prog.underlying 65)), (fsOf (Tryz.prog.underlying 65)).getD 3 default, by kernel_rfl, by kernel_rfl, by kernel_rfl, by kernel_rfl, fun a => by kernel_rfl⟩⟩
instance : TField Tryz.prog 65 4 4 := ⟨fun w => ⟨(fsOf (Tryz.prog.underlying 65)), (fsOf (Tryz.prog.underlying 65)).getD 4 default, by kernel_rfl, by kernel_rfl, by kernel_rfl, by kernel_rfl, fun a => by kernel_rfl⟩⟩
instance : TPlaces Tryz.prog 65 [(0, 1), (1, 1), (2, 1), (3, 1), (4, 1)] ([.string ⟨#[]⟩, .string ⟨#[]⟩, .string ⟨#[]⟩, .int .u64 0, .int .i64 0]) := ⟨fun w => ⟨by kernel_rfl, (fsOf (Tryz.prog.underlying 65)), by kernel_rfl, by kernel_rfl⟩⟩
instance : TSlice Tryz.prog 67 22 := ⟨Tryz.underlying67⟩
instance : TInfo Tryz.prog 67 1 24 ([.slice none 0 0]) := ⟨⟨(Tryz.prog.info? 67).getD default, .slice none 0 0, by kernel_rfl, by kernel_rfl, by kernel_rfl, by kernel_rfl, by kernel_rfl, by kernel_rfl, by decide⟩⟩
instance : TCell Tryz.prog 67 := ⟨fun w => ⟨by kernel_rfl, by kernel_rfl⟩⟩
instance : TInfo Tryz.prog 78 2 24 ([.string ⟨#[]⟩, .int .i64 0]) := ⟨⟨(Tryz.prog.info? 78).getD default, .agg ([.string ⟨#[]⟩, .int .i64 0]).toArray, by kernel_rfl, by kernel_rfl, by kernel_rfl, by kernel_rfl, by kernel_rfl, by kernel_rfl, by decide⟩⟩
instance : TAgg Tryz.prog 78 2 := ⟨fun w => ⟨by kernel_rfl, by kernel_rfl⟩⟩
instance : TField Tryz.prog 78 0 0 := ⟨fun w => ⟨(fsOf (Tryz.prog.underlying 78)), (fsOf (Tryz.prog.underlying 78)).getD 0 default, by kernel_rfl, by kernel_rfl, by kernel_rfl, by kernel_rfl, fun a => by kernel_rfl⟩⟩
instance : TField Tryz.prog 78 1 1 := ⟨fun w => ⟨(fsOf (Tryz.prog.underlying 78)), (fsOf (Tryz.prog.underlying 78)).getD 1 default, by kernel_rfl, by kernel_rfl, by kernel_rfl, by kernel_rfl, fun a => by kernel_rfl⟩⟩
instance : TPlaces Tryz.prog 78 [(0, 1), (1, 1)] ([.string ⟨#[]⟩, .int .i64 0]) := ⟨fun w => ⟨by kernel_rfl, (fsOf (Tryz.prog.underlying 78)), by kernel_rfl, by kernel_rfl⟩⟩
instance : TPtr Tryz.prog 83 85 := ⟨Tryz.underlying83⟩
instance : TInfo Tryz.prog 83 1 8 ([.pointer none]) := ⟨⟨(Tryz.prog.info? 83).getD default, .pointer none, by kernel_rfl, by kernel_rfl, by kernel_rfl, by kernel_rfl, by kernel_rfl, by kernel_rfl, by decide⟩⟩
instance : TCell Tryz.prog 83 := ⟨fun w => ⟨by kernel_rfl, by kernel_rfl⟩⟩
instance : TInfo Tryz.prog 85 2 24 ([.string ⟨#[]⟩, .int .i64 0]) := ⟨⟨(Tryz.prog.info? 85).getD default, .agg ([.string ⟨#[]⟩, .int .i64 0]).toArray, by kernel_rfl, by kernel_rfl, by kernel_rfl, by kernel_rfl, by kernel_rfl, by kernel_rfl, by decide⟩⟩
instance : TAgg Tryz.prog 85 2 := ⟨fun w => ⟨by kernel_rfl, by kernel_rfl⟩⟩
instance : TField Tryz.prog 85 0 0 := ⟨fun w => ⟨(fsOf (Tryz.prog.underlying 85)), (fsOf (Tryz.prog.underlying 85)).getD 0 default, by kernel_rfl, by kernel_rfl, by kernel_rfl, by kernel_rfl, fun a => by kernel_rfl⟩⟩
instance : TField Tryz.prog 85 1 1 := ⟨fun w => ⟨(fsOf (Tryz.prog.underlying 85)), (fsOf (Tryz.prog.underlying 85)).getD 1 default, by kernel_rfl, by kernel_rfl, by kernel_rfl, by kernel_rfl, fun a => by kernel_rfl⟩⟩
instance : TPlaces Tryz.prog 85 [(0, 1), (1, 1)] ([.string ⟨#[]⟩, .int .i64 0]) := ⟨fun w => ⟨by kernel_rfl, (fsOf (Tryz.prog.underlying 85)), by kernel_rfl, by kernel_rfl⟩⟩
instance : TPtr Tryz.prog 87 78 := ⟨Tryz.underlying87⟩
instance : TInfo Tryz.prog 87 1 8 ([.pointer none]) := ⟨⟨(Tryz.prog.info? 87).getD default, .pointer none, by kernel_rfl, by kernel_rfl, by kernel_rfl, by kernel_rfl, by kernel_rfl, by kernel_rfl, by decide⟩⟩
instance : TCell Tryz.prog 87 := ⟨fun w => ⟨by kernel_rfl, by kernel_rfl⟩⟩
instance : TPtr Tryz.prog 89 133 := ⟨Tryz.underlying89⟩
instance : TInfo Tryz.prog 89 1 8 ([.pointer none]) := ⟨⟨(Tryz.prog.info? 89).getD default, .pointer none, by kernel_rfl, by kernel_rfl, by kernel_rfl, by kernel_rfl, by kernel_rfl, by kernel_rfl, by decide⟩⟩
instance : TCell Tryz.prog 89 := ⟨fun w => ⟨by kernel_rfl, by kernel_rfl⟩⟩
instance : TPtr Tryz.prog 92 141 := ⟨Tryz.underlying92⟩
instance : TInfo Tryz.prog 92 1 8 ([.pointer none]) := ⟨⟨(Tryz.prog.info? 92).getD default, .pointer none, by kernel_rfl, by kernel_rfl, by kernel_rfl, by kernel_rfl, by kernel_rfl, by kernel_rfl, by decide⟩⟩
instance : TCell Tryz.prog 92 := ⟨fun w => ⟨by kernel_rfl, by kernel_rfl⟩⟩
instance : TPtr Tryz.prog 100 145 := ⟨Tryz.underlying100⟩
instance : TInfo Tryz.prog 100 1 8 ([.pointer none]) := ⟨⟨(Tryz.prog.info? 100).getD default, .pointer none, by kernel_rfl, by kernel_rfl, by kernel_rfl, by kernel_rfl, by kernel_rfl, by kernel_rfl, by decide⟩⟩
instance : TCell Tryz.prog 100 := ⟨fun w => ⟨by kernel_rfl, by kernel_rfl⟩⟩
instance : TPtr Tryz.prog 107 109 := ⟨Tryz.underlying107⟩
instance : TInfo Tryz.prog 107 1 8 ([.pointer none]) := ⟨⟨(Tryz.prog.info? 107).getD default, .pointer none, by kernel_rfl, by kernel_rfl, by kernel_rfl, by kernel_rfl, by kernel_rfl, by kernel_rfl, by decide⟩⟩
instance : TCell Tryz.prog 107 := ⟨fun w => ⟨by kernel_rfl, by kernel_rfl⟩⟩
instance : TInfo Tryz.prog 109 3 32 ([.string ⟨#[]⟩, .int .i64 0, .int .i64 0]) := ⟨⟨(Tryz.prog.info? 109).getD default, .agg ([.string ⟨#[]⟩, .int .i64 0, .int .i64 0]).toArray, by kernel_rfl, by kernel_rfl, by kernel_rfl, by kernel_rfl, by kernel_rfl, by kernel_rfl, by decide⟩⟩
instance : TAgg Tryz.prog 109 3 := ⟨fun w => ⟨by kernel_rfl, by kernel_rfl⟩⟩
instance : TField Tryz.prog 109 0 0 := ⟨fun w => ⟨(fsOf (Tryz.prog.underlying 109)), (fsOf (Tryz.prog.underlying 109)).getD 0 default, by kernel_rfl, by kernel_rfl, by kernel_rfl, by kernel_rfl, fun a => by kernel_rfl⟩⟩
instance : TField Tryz.prog 109 1 1 := ⟨fun w => ⟨(fsOf (Tryz.prog.underlying 109)), (fsOf (Tryz.prog.underlying 109)).getD 1 default, by kernel_rfl, by kernel_rfl, by kernel_rfl, by kernel_rfl, fun a => by kernel_rfl⟩⟩
instance : TField Tryz.prog 109 2 2 := ⟨fun w => ⟨(fsOf (Tryz.prog.underlying 109)), (fsOf (Tryz.prog.underlying 109)).getD 2 default, by kernel_rfl, by kernel_rfl, by kernel_rfl, by kernel_rfl, fun a => by kernel_rfl⟩⟩
instance : TPlaces Tryz.prog 109 [(0, 1), (1, 1), (2, 1)] ([.string ⟨#[]⟩, .int .i64 0, .int .i64 0]) := ⟨fun w => ⟨by kernel_rfl, (fsOf (Tryz.prog.underlying 109)), by kernel_rfl, by kernel_rfl⟩⟩
instance : TSlice Tryz.prog 119 9 := ⟨Tryz.underlying119⟩
instance : TInfo Tryz.prog 119 1 24 ([.slice none 0 0]) := ⟨⟨(Tryz.prog.info? 119).getD default, .slice none 0 0, by kernel_rfl, by kernel_rfl, by kernel_rfl, by kernel_rfl, by kernel_rfl, by kernel_rfl, by decide⟩⟩
instance : TCell Tryz.prog 119 := ⟨fun w => ⟨by kernel_rfl, by kernel_rfl⟩⟩
instance : TSlice Tryz.prog 121 5 := ⟨Tryz.underlying121⟩
instance : TInfo Tryz.prog 121 1 24 ([.slice none 0 0]) := ⟨⟨(Tryz.prog.info? 121).getD default, .slice none 0 0, by kernel_rfl, by kernel_rfl, by kernel_rfl, by kernel_rfl, by kernel_rfl, by kernel_rfl, by decide⟩⟩
instance : TCell Tryz.prog 121 := ⟨fun w => ⟨by kernel_rfl, by kernel_rfl⟩⟩
instance : TInt Tryz.prog 122 .u64 := ⟨Tryz.underlying122⟩
instance : TInfo Tryz.prog 122 1 8 ([.int .u64 0]) := ⟨⟨(Tryz.prog.info? 122).getD default, .int .u64 0, by kernel_rfl, by kernel_rfl, by kernel_rfl, by kernel_rfl, by kernel_rfl, by kernel_rfl, by decide⟩⟩
instance : TCell Tryz.prog 122 := ⟨fun w => ⟨by kernel_rfl, by kernel_rfl⟩⟩
instance : TInfo Tryz.prog 125 1 8 ([.nilFunc]) := ⟨⟨(Tryz.prog.info? 125).getD default, .nilFunc, by kernel_rfl, by kernel_rfl, by kernel_rfl, by kernel_rfl, by kernel_rfl, by kernel_rfl, by decide⟩⟩
instance : TCell Tryz.prog 125 := ⟨fun w => ⟨by kernel_rfl, by kernel_rfl⟩⟩
instance : TPtr Tryz.prog 129 131 := ⟨Tryz.underlying129⟩
instance : TInfo Tryz.prog 129 1 8 ([.pointer none]) := ⟨⟨(Tryz.prog.info? 129).getD default, .pointer none, by kernel_rfl, by kernel_rfl, by kernel_rfl, by kernel_rfl, by kernel_rfl, by kernel_rfl, by decide⟩⟩
instance : TCell Tryz.prog 129 := ⟨fun w => ⟨by kernel_rfl, by kernel_rfl⟩⟩
instance : TInfo Tryz.prog 131 2 16 ([.int .i64 0, .int .i64 0]) := ⟨⟨(Tryz.prog.info? 131).getD default, .agg ([.int .i64 0, .int .i64 0]).toArray, by kernel_rfl, by kernel_rfl, by kernel_rfl, by kernel_rfl, by kernel_rfl, by kernel_rfl, by decide⟩⟩
instance : TAgg Tryz.prog 131 2 := ⟨fun w => ⟨by kernel_rfl, by kernel_rfl⟩⟩
instance : TField Tryz.prog 131 0 0 := ⟨fun w => ⟨(fsOf (Tryz.prog.underlying 131)), (fsOf (Tryz.prog.underlying 131)).getD 0 default, by kernel_rfl, by kernel_rfl, by kernel_rfl, by kernel_rfl, fun a => by kernel_rfl⟩⟩
instance : TField Tryz.prog 131 1 1 := ⟨fun w => ⟨(fsOf (Tryz.prog.underlying 131)), (fsOf (Tryz.prog.underlying 131)).getD 1 default, by kernel_rfl, by kernel_rfl, by kernel_rfl, by kernel_rfl, fun a => by kernel_rfl⟩⟩
instance : TPlaces Tryz.prog 131 [(0, 1), (1, 1)] ([.int .i64 0, .int .i64 0]) := ⟨fun w => ⟨by kernel_rfl, (fsOf (Tryz.prog.underlying 131)), by kernel_rfl, by kernel_rfl⟩⟩
instance : TInfo Tryz.prog 133 4 64 ([.pointer none, .string ⟨#[]⟩, .slice none 0 0, .string ⟨#[]⟩]) := ⟨⟨(Tryz.prog.info? 133).getD default, .agg ([.pointer none, .string ⟨#[]⟩, .slice none 0 0, .string ⟨#[]⟩]).toArray, by kernel_rfl, by kernel_rfl, by kernel_rfl, by kernel_rfl, by kernel_rfl, by kernel_rfl, by decide⟩⟩
instance : TAgg Tryz.prog 133 4 := ⟨fun w => ⟨by kernel_rfl, by kernel_rfl⟩⟩
instance : TField Tryz.prog 133 0 0 := ⟨fun w => ⟨(fsOf (Tryz.prog.underlying 133)), (fsOf (Tryz.prog.underlying 133)).getD 0 default, by kernel_rfl, by kernel_rfl, by kernel_rfl, by kernel_rfl, fun a => by kernel_rfl⟩⟩
instance : TField Tryz.prog 133 1 1 := ⟨fun w => ⟨(fsOf (Tryz.prog.underlying 133)), (fsOf (Tryz.prog.underlying 133)).getD 1 default, by kernel_rfl, by kernel_rfl, by kernel_rfl, by kernel_rfl, fun a => by kernel_rfl⟩⟩
instance : TField Tryz.prog 133 2 2 := ⟨fun w => ⟨(fsOf (Tryz.prog.underlying 133)), (fsOf (Tryz.prog.underlying 133)).getD 2 default, by kernel_rfl, by kernel_rfl, by kernel_rfl, by kernel_rfl, fun a => by kernel_rfl⟩⟩
instance : TField Tryz.prog 133 3 3 := ⟨fun w => ⟨(fsOf (Tryz.prog.underlying 133)), (fsOf (Tryz.prog.underlying 133)).getD 3 default, by kernel_rfl, by kernel_rfl, by kernel_rfl, by kernel_rfl, fun a => by kernel_rfl⟩⟩
instance : TPlaces Tryz.prog 133 [(0, 1), (1, 1), (2, 1), (3, 1)] ([.pointer none, .string ⟨#[]⟩, .slice none 0 0, .string ⟨#[]⟩]) := ⟨fun w => ⟨by kernel_rfl, (fsOf (Tryz.prog.underlying 133)), by kernel_rfl, by kernel_rfl⟩⟩
instance : TInfo Tryz.prog 134 1 8 ([.nilFunc]) := ⟨⟨(Tryz.prog.info? 134).getD default, .nilFunc, by kernel_rfl, by kernel_rfl, by kernel_rfl, by kernel_rfl, by kernel_rfl, by kernel_rfl, by decide⟩⟩
instance : TCell Tryz.prog 134 := ⟨fun w => ⟨by kernel_rfl, by kernel_rfl⟩⟩
instance : TInfo Tryz.prog 139 1 8 ([.nilFunc]) := ⟨⟨(Tryz.prog.info? 139).getD default, .nilFunc, by kernel_rfl, by kernel_rfl, by kernel_rfl, by kernel_rfl, by kernel_rfl, by kernel_rfl, by decide⟩⟩
instance : TCell Tryz.prog 139 := ⟨fun w => ⟨by kernel_rfl, by kernel_rfl⟩⟩
instance : TInfo Tryz.prog 141 1 24 ([.slice none 0 0]) := ⟨⟨(Tryz.prog.info? 141).getD default, .agg ([.slice none 0 0]).toArray, by kernel_rfl, by kernel_rfl, by kernel_rfl, by kernel_rfl, by kernel_rfl, by kernel_rfl, by decide⟩⟩
instance : TAgg Tryz.prog 141 1 := ⟨fun w => ⟨by kernel_rfl, by kernel_rfl⟩⟩
instance : TField Tryz.prog 141 0 0 := ⟨fun w => ⟨(fsOf (Tryz.prog.underlying 141)), (fsOf (Tryz.prog.underlying 141)).getD 0 default, by kernel_rfl, by kernel_rfl, by kernel_rfl, by kernel_rfl, fun a => by kernel_rfl⟩⟩
instance : TPlaces Tryz.prog 141 [(0, 1)] ([.slice none 0 0]) := ⟨fun w => ⟨by kernel_rfl, (fsOf (Tryz.prog.underlying 141)), by kernel_rfl, by kernel_rfl⟩⟩
instance : TInfo Tryz.prog 145 2 24 ([.string ⟨#[]⟩, .int .i64 0]) := ⟨⟨(Tryz.prog.info? 145).getD default, .agg ([.string ⟨#[]⟩, .int .i64 0]).toArray, by kernel_rfl, by kernel_rfl, by kernel_rfl, by kernel_rfl, by kernel_rfl, by kernel_rfl, by decide⟩⟩
instance : TAgg Tryz.prog 145 2 := ⟨fun w => ⟨by kernel_rfl, by kernel_rfl⟩⟩
instance : TField Tryz.prog 145 0 0 := ⟨fun w => ⟨(fsOf (Tryz.prog.underlying 145)), (fsOf (Tryz.prog.underlying 145)).getD 0 default, by kernel_rfl, by kernel_rfl, by kernel_rfl, by kernel_rfl, fun a => by kernel_rfl⟩⟩
instance : TField Tryz.prog 145 1 1 := ⟨fun w => ⟨(fsOf (Tryz.prog.underlying 145)), (fsOf (Tryz.prog.underlying 145)).getD 1 default, by kernel_rfl, by kernel_rfl, by kernel_rfl, by kernel_rfl, fun a => by kernel_rfl⟩⟩
instance : TPlaces Tryz.prog 145 [(0, 1), (1, 1)] ([.string ⟨#[]⟩, .int .i64 0]) := ⟨fun w => ⟨by kernel_rfl, (fsOf (Tryz.prog.underlying 145)), by kernel_rfl, by kernel_rfl⟩⟩
instance : TInfo Tryz.prog 148 1 8 ([.nilFunc]) := ⟨⟨(Tryz.prog.info? 148).getD default, .nilFunc, by kernel_rfl, by kernel_rfl, by kernel_rfl, by kernel_rfl, by kernel_rfl, by kernel_rfl, by decide⟩⟩
instance : TCell Tryz.prog 148 := ⟨fun w => ⟨by kernel_rfl, by kernel_rfl⟩⟩
instance : TInfo Tryz.prog 150 1 8 ([.nilFunc]) := ⟨⟨(Tryz.prog.info? 150).getD default, .nilFunc, by kernel_rfl, by kernel_rfl, by kernel_rfl, by kernel_rfl, by kernel_rfl, by kernel_rfl, by decide⟩⟩
instance : TCell Tryz.prog 150 := ⟨fun w => ⟨by kernel_rfl, by kernel_rfl⟩⟩
instance : TMap Tryz.prog 152 22 4 := ⟨Tryz.underlying152⟩
instance : TInfo Tryz.prog 152 1 8 ([.map none]) := ⟨⟨(Tryz.prog.info? 152).getD default, .map none, by kernel_rfl, by kernel_rfl, by kernel_rfl, by kernel_rfl, by kernel_rfl, by kernel_rfl, by decide⟩⟩
instance : TCell Tryz.prog 152 := ⟨fun w => ⟨by kernel_rfl, by kernel_rfl⟩⟩
instance : TArr Tryz.prog 155 18 3 := ⟨Tryz.underlying155⟩
instance : TInfo Tryz.prog 155 18 144 (List.replicate 18 (.int .i64 0)) := ⟨⟨(Tryz.prog.info? 155).getD default, .agg (List.replicate 18 (.int .i64 0)).toArray, by kernel_rfl, by kernel_rfl, by kernel_rfl, by kernel_rfl, by kernel_rfl, by kernel_rfl, by decide⟩⟩
instance : TAgg Tryz.prog 155 18 := ⟨fun w => ⟨by kernel_rfl, by kernel_rfl⟩⟩
instance : TInfo Tryz.prog 157 1 8 ([.nilFunc]) := ⟨⟨(Tryz.prog.info? 157).getD default, .nilFunc, by kernel_rfl, by kernel_rfl, by kernel_rfl, by kernel_rfl, by kernel_rfl, by kernel_rfl, by decide⟩⟩
instance : TCell Tryz.prog 157 := ⟨fun w => ⟨by kernel_rfl, by kernel_rfl⟩⟩
instance : TInfo Tryz.prog 158 1 8 ([.nilFunc]) := ⟨⟨(Tryz.prog.info? 158).getD default, .nilFunc, by kernel_rfl, by kernel_rfl, by kernel_rfl, by kernel_rfl, by kernel_rfl, by kernel_rfl, by decide⟩⟩
instance : TCell Tryz.prog 158 := ⟨fun w => ⟨by kernel_rfl, by kernel_rfl⟩⟩
instance : TSlice Tryz.prog 163 3 := ⟨Tryz.underlying163⟩
instance : TInfo Tryz.prog 163 1 24 ([.slice none 0 0]) := ⟨⟨(Tryz.prog.info? 163).getD default, .slice none 0 0, by kernel_rfl, by kernel_rfl, by kernel_rfl, by kernel_rfl, by kernel_rfl, by kernel_rfl, by decide⟩⟩
instance : TCell Tryz.prog 163 := ⟨fun w => ⟨by kernel_rfl, by kernel_rfl⟩⟩
instance : TSlice Tryz.prog 165 119 := ⟨Tryz.underlying165⟩
instance : TInfo Tryz.prog 165 1 24 ([.slice none 0 0]) := ⟨⟨(Tryz.prog.info? 165).getD default, .slice none 0 0, by kernel_rfl, by kernel_rfl, by kernel_rfl, by kernel_rfl, by kernel_rfl, by kernel_rfl, by decide⟩⟩
instance : TCell Tryz.prog 165 := ⟨fun w => ⟨by kernel_rfl, by kernel_rfl⟩⟩
instance : TInfo Tryz.prog 168 1 8 ([.nilFunc]) := ⟨⟨(Tryz.prog.info? 168).getD default, .nilFunc, by kernel_rfl, by kernel_rfl, by kernel_rfl, by kernel_rfl, by kernel_rfl, by kernel_rfl, by decide⟩⟩
instance : TCell Tryz.prog 168 := ⟨fun w => ⟨by kernel_rfl, by kernel_rfl⟩⟩
instance : TInt Tryz.prog 169 .u32 := ⟨Tryz.underlying169⟩
instance : TInfo Tryz.prog 169 1 4 ([.int .u32 0]) := ⟨⟨(Tryz.prog.info? 169).getD default, .int .u32 0, by kernel_rfl, by kernel_rfl, by kernel_rfl, by kernel_rfl, by kernel_rfl, by kernel_rfl, by decide⟩⟩
instance : TCell Tryz.prog 169 := ⟨fun w => ⟨by kernel_rfl, by kernel_rfl⟩⟩
instance : TSlice Tryz.prog 170 169 := ⟨Tryz.underlying170⟩
instance : TInfo Tryz.prog 170 1 24 ([.slice none 0 0]) := ⟨⟨(Tryz.prog.info? 170).getD default, .slice none 0 0, by kernel_rfl, by kernel_rfl, by kernel_rfl, by kernel_rfl, by kernel_rfl, by kernel_rfl, by decide⟩⟩
instance : TCell Tryz.prog 170 := ⟨fun w => ⟨by kernel_rfl, by kernel_rfl⟩⟩
instance : TPtr Tryz.prog 174 182 := ⟨Tryz.underlying174⟩
instance : TInfo Tryz.prog 174 1 8 ([.pointer none]) := ⟨⟨(Tryz.prog.info? 174).getD default, .pointer none, by kernel_rfl, by kernel_rfl, by kernel_rfl, by kernel_rfl, by kernel_rfl, by kernel_rfl, by decide⟩⟩
instance : TCell Tryz.prog 174 := ⟨fun w => ⟨by kernel_rfl, by kernel_rfl⟩⟩
instance : TArr Tryz.prog 178 8 169 := ⟨Tryz.underlying178⟩
instance : TInfo Tryz.prog 178 8 32 (List.replicate 8 (.int .u32 0)) := ⟨⟨(Tryz.prog.info? 178).getD default, .agg (List.replicate 8 (.int .u32 0)).toArray, by kernel_rfl, by kernel_rfl, by kernel_rfl, by kernel_rfl, by kernel_rfl, by kernel_rfl, by decide⟩⟩
instance : TAgg Tryz.prog 178 8 := ⟨fun w => ⟨by kernel_rfl, by kernel_rfl⟩⟩
instance : TArr Tryz.prog 179 8 169 := ⟨Tryz.underlying179⟩
instance : TInfo Tryz.prog 179 8 32 (List.replicate 8 (.int .u32 0)) := ⟨⟨(Tryz.prog.info? 179).getD default, .agg (List.replicate 8 (.int .u32 0)).toArray, by kernel_rfl, by kernel_rfl, by kernel_rfl, by kernel_rfl, by kernel_rfl, by kernel_rfl, by decide⟩⟩
instance : TAgg Tryz.prog 179 8 := ⟨fun w => ⟨by kernel_rfl, by kernel_rfl⟩⟩
instance : TInfo Tryz.prog 182 10 56 ([.int .u32 0, .int .u32 0, .int .u32 0, .int .u32 0, .int .u32 0, .int .u32 0, .int .u32 0, .int .u32 0, .string ⟨#[]⟩, .int .i64 0]) := ⟨⟨(Tryz.prog.info? 182).getD default, .agg ([.int .u32 0, .int .u32 0, .int .u32 0, .int .u32 0, .int .u32 0, .int .u32 0, .int .u32 0, .int .u32 0, .string ⟨#[]⟩, .int .i64 0]).toArray, by kernel_rfl, by kernel_rfl, by kernel_rfl, by kernel_rfl, by kernel_rfl, by kernel_rfl, by decide⟩⟩
instance : TAgg Tryz.prog 182 10 := ⟨fun w => ⟨by kernel_rfl, by kernel_rfl⟩⟩
instance : TFieldAgg Tryz.prog 182 0 0 8 := ⟨fun w => ⟨(fsOf (Tryz.prog.underlying 182)), (fsOf (Tryz.prog.underlying 182)).getD 0 default, by kernel_rfl, by kernel_rfl, by kernel_rfl, by kernel_rfl, by kernel_rfl, fun a => by kernel_rfl⟩⟩
instance : TField Tryz.prog 182 1 8 := ⟨fun w => ⟨(fsOf (Tryz.prog.underlying 182)), (fsOf (Tryz.prog.underlying 182)).getD 1 default, by kernel_rfl, by kernel_rfl, by kernel_rfl, by kernel_rfl, fun a => by kernel_rfl⟩⟩
instance : TField Tryz.prog 182 2 9 := ⟨fun w => ⟨(fsOf (Tryz.prog.underlying 182)), (fsOf (Tryz.prog.underlying 182)).getD 2 default, by kernel_rfl, by kernel_rfl, by kernel_rfl, by kernel_rfl, fun a => by kernel_rfl⟩⟩
instance : TPlaces Tryz.prog 182 [(0, 8), (8, 1), (9, 1)] ([.int .u32 0, .int .u32 0, .int .u32 0, .int .u32 0, .int .u32 0, .int .u32 0, .int .u32 0, .int .u32 0, .string ⟨#[]⟩, .int .i64 0]) := ⟨fun w => ⟨by kernel_rfl, (fsOf (Tryz.prog.underlying 182)), by kernel_rfl, by kernel_rfl⟩⟩
instance : TPtr Tryz.prog 183 179 := ⟨Tryz.underlying183⟩
instance : TInfo Tryz.prog 183 1 8 ([.pointer none]) := ⟨⟨(Tryz.prog.info? 183).getD default, .pointer none, by kernel_rfl, by kernel_rfl, by kernel_rfl, by kernel_rfl, by kernel_rfl, by kernel_rfl, by decide⟩⟩
instance : TCell Tryz.prog 183 := ⟨fun w => ⟨by kernel_rfl, by kernel_rfl⟩⟩
instance : TPtr Tryz.prog 184 187 := ⟨Tryz.underlying184⟩
instance : TInfo Tryz.prog 184 1 8 ([.pointer none]) := ⟨⟨(Tryz.prog.info? 184).getD default, .pointer none, by kernel_rfl, by kernel_rfl, by kernel_rfl, by kernel_rfl, by kernel_rfl, by kernel_rfl, by decide⟩⟩
instance : TCell Tryz.prog 184 := ⟨fun w => ⟨by kernel_rfl, by kernel_rfl⟩⟩
instance : TArr Tryz.prog 187 64 169 := ⟨Tryz.underlying187⟩
instance : TInfo Tryz.prog 187 64 256 (List.replicate 64 (.int .u32 0)) := ⟨⟨(Tryz.prog.info? 187).getD default, .agg (List.replicate 64 (.int .u32 0)).toArray, by kernel_rfl, by kernel_rfl, by kernel_rfl, by kernel_rfl, by kernel_rfl, by kernel_rfl, by decide⟩⟩
instance : TAgg Tryz.prog 187 64 := ⟨fun w => ⟨by kernel_rfl, by kernel_rfl⟩⟩
instance : HasBody Tryz.prog 3 := ⟨Tryz.call3⟩
instance : HasBody Tryz.prog 4 := ⟨Tryz.call4⟩
instance : HasBody Tryz.prog 5 := ⟨Tryz.call5⟩
instance : HasBody Tryz.prog 6 := ⟨Tryz.call6⟩
instance : HasBody Tryz.prog 7 := ⟨Tryz.call7⟩
instance : HasBody Tryz.prog 8 := ⟨Tryz.call8⟩
instance : HasBody Tryz.prog 9 := ⟨Tryz.call9⟩
instance : HasBody Tryz.prog 10 := ⟨Tryz.call10⟩
instance : HasBody Tryz.prog 11 := ⟨Tryz.call11⟩
instance : HasBody Tryz.prog 12 := ⟨Tryz.call12⟩
instance : HasBody Tryz.prog 13 := ⟨Tryz.call13⟩
instance : HasBody Tryz.prog 14 := ⟨Tryz.call14⟩
instance : HasBody Tryz.prog 15 := ⟨Tryz.call15⟩
instance : HasBody Tryz.prog 16 := ⟨Tryz.call16⟩
instance : HasBody Tryz.prog 17 := ⟨Tryz.call17⟩
instance : HasBody Tryz.prog 18 := ⟨Tryz.call18⟩
instance : HasBody Tryz.prog 19 := ⟨Tryz.call19⟩
instance : HasBody Tryz.prog 20 := ⟨Tryz.call20⟩
instance : HasBody Tryz.prog 21 := ⟨Tryz.call21⟩
instance : HasBody Tryz.prog 22 := ⟨Tryz.call22⟩
instance : HasBody Tryz.prog 23 := ⟨Tryz.call23⟩
instance : HasBody Tryz.prog 24 := ⟨Tryz.call24⟩
instance : HasBody Tryz.prog 25 := ⟨Tryz.call25⟩
instance : HasBody Tryz.prog 26 := ⟨Tryz.call26⟩
instance : HasBody Tryz.prog 27 := ⟨Tryz.call27⟩
instance : HasBody Tryz.prog 28 := ⟨Tryz.call28⟩
instance : HasBody Tryz.prog 29 := ⟨Tryz.call29⟩
instance : HasBody Tryz.prog 30 := ⟨Tryz.call30⟩
instance : HasBody Tryz.prog 31 := ⟨Tryz.call31⟩
instance : HasBody Tryz.prog 32 := ⟨Tryz.call32⟩
instance : HasBody Tryz.prog 33 := ⟨Tryz.call33⟩
instance : HasBody Tryz.prog 34 := ⟨Tryz.call34⟩
instance : HasBody Tryz.prog 35 := ⟨Tryz.call35⟩
instance : HasBody Tryz.prog 36 := ⟨Tryz.call36⟩
instance : HasBody Tryz.prog 37 := ⟨Tryz.call37⟩
instance : HasBody Tryz.prog 38 := ⟨Tryz.call38⟩
instance : HasBody Tryz.prog 39 := ⟨Tryz.call39⟩
instance : HasBody Tryz.prog 40 := ⟨Tryz.call40⟩
instance : HasBody Tryz.prog 41 := ⟨Tryz.call41⟩
instance : HasBody Tryz.prog 42 := ⟨Tryz.call42⟩
instance : HasBody Tryz.prog 43 := ⟨Tryz.call43⟩
instance : HasBody Tryz.prog 44 := ⟨Tryz.call44⟩
instance : HasBody Tryz.prog 45 := ⟨Tryz.call45⟩
instance : HasBody Tryz.prog 46 := ⟨Tryz.call46⟩
instance : HasBody Tryz.prog 47 := ⟨Tryz.call47⟩
instance : HasBody Tryz.prog 48 := ⟨Tryz.call48⟩
instance : HasBody Tryz.prog 49 := ⟨Tryz.call49⟩
instance : HasBody Tryz.prog 50 := ⟨Tryz.call50⟩
instance : HasBody Tryz.prog 51 := ⟨Tryz.call51⟩
instance : HasBody Tryz.prog 52 := ⟨Tryz.call52⟩
instance : HasBody Tryz.prog 53 := ⟨Tryz.call53⟩
instance : HasBody Tryz.prog 54 := ⟨Tryz.call54⟩
instance : HasBody Tryz.prog 55 := ⟨Tryz.call55⟩
instance : HasBody Tryz.prog 56 := ⟨Tryz.call56⟩
instance : HasBody Tryz.prog 57 := ⟨Tryz.call57⟩
instance : HasBody Tryz.prog 58 := ⟨Tryz.call58⟩
instance : HasBody Tryz.prog 59 := ⟨Tryz.call59⟩
instance : HasBody Tryz.prog 60 := ⟨Tryz.call60⟩
instance : HasBody Tryz.prog 61 := ⟨Tryz.call61⟩
instance : HasBody Tryz.prog 62 := ⟨Tryz.call62⟩
instance : HasBody Tryz.prog 63 := ⟨Tryz.call63⟩
instance : HasBody Tryz.prog 64 := ⟨Tryz.call64⟩
instance : HasBody Tryz.prog 65 := ⟨Tryz.call65⟩
instance : HasBody Tryz.prog 66 := ⟨Tryz.call66⟩
instance : HasBody Tryz.prog 67 := ⟨Tryz.call67⟩
instance : HasBody Tryz.prog 68 := ⟨Tryz.call68⟩
instance : HasBody Tryz.prog 69 := ⟨Tryz.call69⟩
instance : HasBody Tryz.prog 70 := ⟨Tryz.call70⟩
instance : HasBody Tryz.prog 71 := ⟨Tryz.call71⟩
instance : HasBody Tryz.prog 72 := ⟨Tryz.call72⟩
instance : HasBody Tryz.prog 73 := ⟨Tryz.call73⟩
instance : HasBody Tryz.prog 74 := ⟨Tryz.call74⟩
instance : HasBody Tryz.prog 75 := ⟨Tryz.call75⟩
instance : HasBody Tryz.prog 76 := ⟨Tryz.call76⟩
instance : HasBody Tryz.prog 77 := ⟨Tryz.call77⟩
instance : HasBody Tryz.prog 78 := ⟨Tryz.call78⟩
instance : HasBody Tryz.prog 79 := ⟨Tryz.call79⟩
instance : HasBody Tryz.prog 80 := ⟨Tryz.call80⟩
instance : HasBody Tryz.prog 81 := ⟨Tryz.call81⟩
instance : HasBody Tryz.prog 82 := ⟨Tryz.call82⟩
instance : HasBody Tryz.prog 83 := ⟨Tryz.call83⟩
instance : HasBody Tryz.prog 84 := ⟨Tryz.call84⟩
instance : HasBody Tryz.prog 85 := ⟨Tryz.call85⟩
instance : HasBody Tryz.prog 86 := ⟨Tryz.call86⟩
instance : HasBody Tryz.prog 87 := ⟨Tryz.call87⟩
instance : HasBody Tryz.prog 88 := ⟨Tryz.call88⟩
instance : HasBody Tryz.prog 89 := ⟨Tryz.call89⟩
instance : HasBody Tryz.prog 90 := ⟨Tryz.call90⟩
instance : HasBody Tryz.prog 91 := ⟨Tryz.call91⟩
instance : HasBody Tryz.prog 92 := ⟨Tryz.call92⟩
instance : HasBody Tryz.prog 93 := ⟨Tryz.call93⟩
instance : HasBody Tryz.prog 94 := ⟨Tryz.call94⟩
instance : HasBody Tryz.prog 95 := ⟨Tryz.call95⟩
instance : HasBody Tryz.prog 96 := ⟨Tryz.call96⟩
instance : HasBody Tryz.prog 97 := ⟨Tryz.call97⟩
instance : HasBody Tryz.prog 98 := ⟨Tryz.call98⟩
instance : HasBody Tryz.prog 99 := ⟨Tryz.call99⟩
instance : HasBody Tryz.prog 100 := ⟨Tryz.call100⟩
instance : HasBody Tryz.prog 101 := ⟨Tryz.call101⟩
instance : HasBody Tryz.prog 102 := ⟨Tryz.call102⟩
instance : HasBody Tryz.prog 103 := ⟨Tryz.call103⟩
instance : HasBody Tryz.prog 104 := ⟨Tryz.call104⟩
instance : HasBody Tryz.prog 105 := ⟨Tryz.call105⟩
instance : HasBody Tryz.prog 106 := ⟨Tryz.call106⟩
instance : HasBody Tryz.prog 107 := ⟨Tryz.call107⟩
instance : HasBody Tryz.prog 108 := ⟨Tryz.call108⟩
instance : HasBody Tryz.prog 109 := ⟨Tryz.call109⟩
instance : HasBody Tryz.prog 110 := ⟨Tryz.call110⟩
instance : HasBody Tryz.prog 111 := ⟨Tryz.call111⟩
instance : HasBody Tryz.prog 112 := ⟨Tryz.call112⟩
instance : HasBody Tryz.prog 113 := ⟨Tryz.call113⟩
instance : HasBody Tryz.prog 114 := ⟨Tryz.call114⟩
instance : HasBody Tryz.prog 115 := ⟨Tryz.call115⟩
instance : HasBody Tryz.prog 116 := ⟨Tryz.call116⟩
instance : HasBody Tryz.prog 117 := ⟨Tryz.call117⟩
instance : HasBody Tryz.prog 118 := ⟨Tryz.call118⟩
instance : HasBody Tryz.prog 119 := ⟨Tryz.call119⟩
instance : HasBody Tryz.prog 120 := ⟨Tryz.call120⟩
instance : HasBody Tryz.prog 121 := ⟨Tryz.call121⟩
instance : HasBody Tryz.prog 122 := ⟨Tryz.call122⟩
instance : HasBody Tryz.prog 123 := ⟨Tryz.call123⟩
instance : HasBody Tryz.prog 124 := ⟨Tryz.call124⟩
instance : HasBody Tryz.prog 125 := ⟨Tryz.call125⟩
instance : HasBody Tryz.prog 126 := ⟨Tryz.call126⟩
instance : HasBody Tryz.prog 127 := ⟨Tryz.call127⟩
instance : HasBody Tryz.prog 128 := ⟨Tryz.call128⟩
instance : HasBody Tryz.prog 129 := ⟨Tryz.call129⟩
instance : HasBody Tryz.prog 130 := ⟨Tryz.call130⟩
instance : HasBody Tryz.prog 131 := ⟨Tryz.call131⟩
instance : HasBody Tryz.prog 132 := ⟨Tryz.call132⟩
instance : HasBody Tryz.prog 133 := ⟨Tryz.call133⟩
instance : HasBody Tryz.prog 134 := ⟨Tryz.call134⟩
instance : HasBody Tryz.prog 135 := ⟨Tryz.call135⟩
instance : HasBody Tryz.prog 136 := ⟨Tryz.call136⟩
instance : HasBody Tryz.prog 137 := ⟨Tryz.call137⟩
instance : HasBody Tryz.prog 138 := ⟨Tryz.call138⟩
instance : HasBody Tryz.prog 139 := ⟨Tryz.call139⟩
instance : HasBody Tryz.prog 140 := ⟨Tryz.call140⟩
instance : HasBody Tryz.prog 141 := ⟨Tryz.call141⟩
instance : HasBody Tryz.prog 142 := ⟨Tryz.call142⟩
instance : HasBody Tryz.prog 143 := ⟨Tryz.call143⟩
instance : HasBody Tryz.prog 144 := ⟨Tryz.call144⟩
instance : HasBody Tryz.prog 145 := ⟨Tryz.call145⟩
instance : HasBody Tryz.prog 146 := ⟨Tryz.call146⟩
instance : HasBody Tryz.prog 147 := ⟨Tryz.call147⟩
instance : HasBody Tryz.prog 148 := ⟨Tryz.call148⟩
instance : HasBody Tryz.prog 149 := ⟨Tryz.call149⟩
instance : HasBody Tryz.prog 150 := ⟨Tryz.call150⟩
instance : HasBody Tryz.prog 151 := ⟨Tryz.call151⟩
instance : HasBody Tryz.prog 152 := ⟨Tryz.call152⟩
instance : HasBody Tryz.prog 153 := ⟨Tryz.call153⟩
instance : HasBody Tryz.prog 154 := ⟨Tryz.call154⟩
instance : HasBody Tryz.prog 155 := ⟨Tryz.call155⟩
end Go.Proofs.YtddpoigfliaklaaGreat
