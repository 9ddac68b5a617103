/- The types and functions of this translation, as instances for the calculus. Written by program. -/
import Derived.Test.YtomhcibbalhgkaaGreatChecked
import Derived.Test.YtomhcibbalhgkaaGreatJf
namespace Go.Proofs.YtomhcibbalhgkaaGreat
set_option maxRecDepth 100000
instance : Mixed Tryz.prog := ⟨by kernel_rfl⟩
instance : TInt Tryz.prog 3 .i64 := ⟨Tryz.underlying3⟩
instance : TInfo Tryz.prog 3 1 8 ([.int .i64 0]) := ⟨⟨(Tryz.prog.info? 3).getD default, .int .i64 0, by kernel_rfl, by kernel_rfl, by kernel_rfl, by kernel_rfl, by kernel_rfl, by kernel_rfl, by decide⟩⟩
instance : TCell Tryz.prog 3 := ⟨fun w => ⟨by kernel_rfl, by kernel_rfl⟩⟩
instance : TBool Tryz.prog 4 := ⟨Tryz.underlying4⟩
instance : TInfo Tryz.prog 4 1 1 ([.bool false]) := ⟨⟨(Tryz.prog.info? 4).getD default, .bool false, by kernel_rfl, by kernel_rfl, by kernel_rfl, by kernel_rfl, by kernel_rfl, by kernel_rfl, by decide⟩⟩
instance : TCell Tryz.prog 4 := ⟨fun w => ⟨by kernel_rfl, by kernel_rfl⟩⟩
instance : TInt Tryz.prog 5 .u8 := ⟨Tryz.underlying5⟩
instance : TInfo Tryz.prog 5 1 1 ([.int .u8 0]) := ⟨⟨(Tryz.prog.info? 5).getD default, .int .u8 0, by kernel_rfl, by kernel_rfl, by kernel_rfl, by kernel_rfl, by kernel_rfl, by kernel_rfl, by decide⟩⟩
instance : TCell Tryz.prog 5 := ⟨fun w => ⟨by kernel_rfl, by kernel_rfl⟩⟩
instance : TStr Tryz.prog 9 := ⟨Tryz.underlying9⟩
instance : TInfo Tryz.prog 9 1 16 ([.string ⟨#[]⟩]) := ⟨⟨(Tryz.prog.info? 9).getD default, .string ⟨#[]⟩, by kernel_rfl, by kernel_rfl, by kernel_rfl, by kernel_rfl, by kernel_rfl, by kernel_rfl, by decide⟩⟩
instance : TCell Tryz.prog 9 := ⟨fun w => ⟨by kernel_rfl, by kernel_rfl⟩⟩
instance : TSlice Tryz.prog 22 53 := ⟨Tryz.underlying22⟩
instance : TInfo Tryz.prog 22 1 24 ([.slice none 0 0]) := ⟨⟨(Tryz.prog.info? 22).getD default, .slice none 0 0, by kernel_rfl, by kernel_rfl, by kernel_rfl, by kernel_rfl, by kernel_rfl, by kernel_rfl, by decide⟩⟩
instance : TCell Tryz.prog 22 := ⟨fun w => ⟨by kernel_rfl, by kernel_rfl⟩⟩
instance : TInfo Tryz.prog 24 3 48 ([.int .i64 0, .string ⟨#[]⟩, .slice none 0 0]) := ⟨⟨(Tryz.prog.info? 24).getD default, .agg ([.int .i64 0, .string ⟨#[]⟩, .slice none 0 0]).toArray, by kernel_rfl, by kernel_rfl, by kernel_rfl, by kernel_rfl, by kernel_rfl, by kernel_rfl, by decide⟩⟩
instance : TAgg Tryz.prog 24 3 := ⟨fun w => ⟨by kernel_rfl, by kernel_rfl⟩⟩
instance : TField Tryz.prog 24 0 0 := ⟨fun w => ⟨(fsOf (Tryz.prog.underlying 24)), (fsOf (Tryz.prog.underlying 24)).getD 0 default, by kernel_rfl, by kernel_rfl, by kernel_rfl, by kernel_rfl, fun a => by kernel_rfl⟩⟩
instance : TField Tryz.prog 24 1 1 := ⟨fun w => ⟨(fsOf (Tryz.prog.underlying 24)), (fsOf (Tryz.prog.underlying 24)).getD 1 default, by kernel_rfl, by kernel_rfl, by kernel_rfl, by kernel_rfl, fun a => by kernel_rfl⟩⟩
instance : TField Tryz.prog 24 2 2 := ⟨fun w => ⟨(fsOf (Tryz.prog.underlying 24)), (fsOf (Tryz.prog.underlying 24)).getD 2 default, by kernel_rfl, by kernel_rfl, by kernel_rfl, by kernel_rfl, fun a => by kernel_rfl⟩⟩
instance : TPlaces Tryz.prog 24 [(0, 1), (1, 1), (2, 1)] ([.int .i64 0, .string ⟨#[]⟩, .slice none 0 0]) := ⟨fun w => ⟨by kernel_rfl, (fsOf (Tryz.prog.underlying 24)), by kernel_rfl, by kernel_rfl⟩⟩
instance : TSlice Tryz.prog 25 56 := ⟨Tryz.underlying25⟩
instance : TInfo Tryz.prog 25 1 24 ([.slice none 0 0]) := ⟨⟨(Tryz.prog.info? 25).getD default, .slice none 0 0, by kernel_rfl, by kernel_rfl, by kernel_rfl, by kernel_rfl, by kernel_rfl, by kernel_rfl, by decide⟩⟩
instance : TCell Tryz.prog 25 := ⟨fun w => ⟨by kernel_rfl, by kernel_rfl⟩⟩
instance : TSlice Tryz.prog 27 58 := ⟨Tryz.underlying27⟩
instance : TInfo Tryz.prog 27 1 24 ([.slice none 0 0]) := ⟨⟨(Tryz.prog.info? 27).getD default, .slice none 0 0, by kernel_rfl, by kernel_rfl, by kernel_rfl, by kernel_rfl, by kernel_rfl, by kernel_rfl, by decide⟩⟩
instance : TCell Tryz.prog 27 := ⟨fun w => ⟨by kernel_rfl, by kernel_rfl⟩⟩
instance : TSlice Tryz.prog 32 68 := ⟨Tryz.underlying32⟩
instance : TInfo Tryz.prog 32 1 24 ([.slice none 0 0]) := ⟨⟨(Tryz.prog.info? 32).getD default, .slice none 0 0, by kernel_rfl, by kernel_rfl, by kernel_rfl, by kernel_rfl, by kernel_rfl, by kernel_rfl, by decide⟩⟩
instance : TCell Tryz.prog 32 := ⟨fun w => ⟨by kernel_rfl, by kernel_rfl⟩⟩
instance : TInfo Tryz.prog 34 3 48 ([.int .i64 0, .string ⟨#[]⟩, .slice none 0 0]) := ⟨⟨(Tryz.prog.info? 34).getD default, .agg ([.int .i64 0, .string ⟨#[]⟩, .slice none 0 0]).toArray, by kernel_rfl, by kernel_rfl, by kernel_rfl, by kernel_rfl, by kernel_rfl, by kernel_rfl, by decide⟩⟩
instance : TAgg Tryz.prog 34 3 := ⟨fun w => ⟨by kernel_rfl, by kernel_rfl⟩⟩
instance : TField Tryz.prog 34 0 0 := ⟨fun w => ⟨(fsOf (Tryz.prog.underlying 34)), (fsOf (Tryz.prog.underlying 34)).getD 0 default, by kernel_rfl, by kernel_rfl, by kernel_rfl, by kernel_rfl, fun a => by kernel_rfl⟩⟩
instance : TField Tryz.prog 34 1 1 := ⟨fun w => ⟨(fsOf (Tryz.prog.underlying 34)), (fsOf (Tryz.prog.underlying 34)).getD 1 default, by kernel_rfl, by kernel_rfl, by kernel_rfl, by kernel_rfl, fun a => by kernel_rfl⟩⟩
instance : TField Tryz.prog 34 2 2 := ⟨fun w => ⟨(fsOf (Tryz.prog.underlying 34)), (fsOf (Tryz.prog.underlying 34)).getD 2 default, by kernel_rfl, by kernel_rfl, by kernel_rfl, by kernel_rfl, fun a => by kernel_rfl⟩⟩
instance : TPlaces Tryz.prog 34 [(0, 1), (1, 1), (2, 1)] ([.int .i64 0, .string ⟨#[]⟩, .slice none 0 0]) := ⟨fun w => ⟨by kernel_rfl, (fsOf (Tryz.prog.underlying 34)), by kernel_rfl, by kernel_rfl⟩⟩
instance : TInfo Tryz.prog 43 2 24 ([.string ⟨#[]⟩, .int .i64 0]) := ⟨⟨(Tryz.prog.info? 43).getD default, .agg ([.string ⟨#[]⟩, .int .i64 0]).toArray, by kernel_rfl, by kernel_rfl, by kernel_rfl, by kernel_rfl, by kernel_rfl, by kernel_rfl, by decide⟩⟩
instance : TAgg Tryz.prog 43 2 := ⟨fun w => ⟨by kernel_rfl, by kernel_rfl⟩⟩
instance : TField Tryz.prog 43 0 0 := ⟨fun w => ⟨(fsOf (Tryz.prog.underlying 43)), (fsOf (Tryz.prog.underlying 43)).getD 0 default, by kernel_rfl, by kernel_rfl, by kernel_rfl, by kernel_rfl, fun a => by kernel_rfl⟩⟩
instance : TField Tryz.prog 43 1 1 := ⟨fun w => ⟨(fsOf (Tryz.prog.underlying 43)), (fsOf (Tryz.prog.underlying 43)).getD 1 default, by kernel_rfl, by kernel_rfl, by kernel_rfl, by kernel_rfl, fun a => by kernel_rfl⟩⟩
instance : TPlaces Tryz.prog 43 [(0, 1), (1, 1)] ([.string ⟨#[]⟩, .int .i64 0]) := ⟨fun w => ⟨by kernel_rfl, (fsOf (Tryz.prog.underlying 43)), by kernel_rfl, by kernel_rfl⟩⟩
instance : TSlice Tryz.prog 47 97 := ⟨Tryz.underlying47⟩
instance : TInfo Tryz.prog 47 1 24 ([.slice none 0 0]) := ⟨⟨(Tryz.prog.info? 47).getD default, .slice none 0 0, by kernel_rfl, by kernel_rfl, by kernel_rfl, by kernel_rfl, by kernel_rfl, by kernel_rfl, by decide⟩⟩
instance : TCell Tryz.prog 47 := ⟨fun w => ⟨by kernel_rfl, by kernel_rfl⟩⟩
instance : TInt Tryz.prog 48 .u64 := ⟨Tryz.underlying48⟩
instance : TInfo Tryz.prog 48 1 8 ([.int .u64 0]) := ⟨⟨(Tryz.prog.info? 48).getD default, .int .u64 0, by kernel_rfl, by kernel_rfl, by kernel_rfl, by kernel_rfl, by kernel_rfl, by kernel_rfl, by decide⟩⟩
instance : TCell Tryz.prog 48 := ⟨fun w => ⟨by kernel_rfl, by kernel_rfl⟩⟩
instance : TSlice Tryz.prog 49 135 := ⟨Tryz.underlying49⟩
instance : TInfo Tryz.prog 49 1 24 ([.slice none 0 0]) := ⟨⟨(Tryz.prog.info? 49).getD default, .slice none 0 0, by kernel_rfl, by kernel_rfl, by kernel_rfl, by kernel_rfl, by kernel_rfl, by kernel_rfl, by decide⟩⟩
instance : TCell Tryz.prog 49 := ⟨fun w => ⟨by kernel_rfl, by kernel_rfl⟩⟩
instance : TInfo Tryz.prog 51 4 64 ([.int .u64 0, .string ⟨#[]⟩, .string ⟨#[]⟩, .slice none 0 0]) := ⟨⟨(Tryz.prog.info? 51).getD default, .agg ([.int .u64 0, .string ⟨#[]⟩, .string ⟨#[]⟩, .slice none 0 0]).toArray, by kernel_rfl, by kernel_rfl, by kernel_rfl, by kernel_rfl, by kernel_rfl, by kernel_rfl, by decide⟩⟩
instance : TAgg Tryz.prog 51 4 := ⟨fun w => ⟨by kernel_rfl, by kernel_rfl⟩⟩
instance : TField Tryz.prog 51 0 0 := ⟨fun w => ⟨(fsOf (Tryz.prog.underlying 51)), (fsOf (Tryz.prog.underlying 51)).getD 0 default, by kernel_rfl, by kernel_rfl, by kernel_rfl, by kernel_rfl, fun a => by kernel_rfl⟩⟩
instance : TField Tryz.prog 51 1 1 := ⟨fun w => ⟨(fsOf (Tryz.prog.underlying 51)), (fsOf (Tryz.prog.underlying 51)).getD 1 default, by kernel_rfl, by kernel_rfl, by kernel_rfl, by kernel_rfl, fun a => by kernel_rfl⟩⟩
instance : TField Tryz.prog 51 2 2 := ⟨fun w => ⟨(fsOf (Tryz.prog.underlying 51)), (fsOf (Tryz.prog.underlying 51)).getD 2 default, by kernel_rfl, by kernel_rfl, by kernel_rfl, by kernel_rfl, fun a => by kernel_rfl⟩⟩
instance : TField Tryz.prog 51 3 3 := ⟨fun w => ⟨(fsOf (Tryz.prog.underlying 51)), (fsOf (Tryz.prog.underlying 51)).getD 3 default, by kernel_rfl, by kernel_rfl, by kernel_rfl, by kernel_rfl, fun a => by kernel_rfl⟩⟩
instance : TPlaces Tryz.prog 51 [(0, 1), (1, 1), (2, 1), (3, 1)] ([.int .u64 0, .string ⟨#[]⟩, .string ⟨#[]⟩, .slice none 0 0]) := ⟨fun w => ⟨by kernel_rfl, (fsOf (Tryz.prog.underlying 51)), by kernel_rfl, by kernel_rfl⟩⟩
instance : TInfo Tryz.prog 53 6 112 ([.slice none 0 0, .slice none 0 0, .int .u64 0, .string ⟨#[]⟩, .string ⟨#[]⟩, .slice none 0 0]) := ⟨⟨(Tryz.prog.info? 53).getD default, .agg ([.slice none 0 0, .slice none 0 0, .int .u64 0, .string ⟨#[]⟩, .string ⟨#[]⟩, .slice none 0 0]).toArray, by kernel_rfl, by kernel_rfl, by kernel_rfl, by kernel_rfl, by kernel_rfl, by kernel_rfl, by decide⟩⟩
instance : TAgg Tryz.prog 53 6 := ⟨fun w => ⟨by kernel_rfl, by kernel_rfl⟩⟩
instance : TField Tryz.prog 53 0 0 := ⟨fun w => ⟨(fsOf (Tryz.prog.underlying 53)), (fsOf (Tryz.prog.underlying 53)).getD 0 default, by kernel_rfl, by kernel_rfl, by kernel_rfl, by kernel_rfl, fun a => by kernel_rfl⟩⟩
instance : TField Tryz.prog 53 1 1 := ⟨fun w => ⟨(fsOf (Tryz.prog.underlying 53)), (fsOf (Tryz.prog.underlying 53)).getD 1 default, by kernel_rfl, by kernel_rfl, by kernel_rfl, by kernel_rfl, fun a => by kernel_rfl⟩⟩
instance : TFieldAgg Tryz.prog 53 2 2 4 := ⟨fun w => ⟨(fsOf (Tryz.prog.underlying 53)), (fsOf (Tryz.prog.underlying 53)).getD 2 default, by kernel_rfl, by kernel_rfl, by kernel_rfl, by kernel_rfl, by kernel_rfl, fun a => by kernel_rfl⟩⟩
instance : TPlaces Tryz.prog 53 [(0, 1), (1, 1), (2, 4)] ([.slice none 0 0, .slice none 0 0, .int .u64 0, .string ⟨#[]⟩, .string ⟨#[]⟩, .slice none 0 0]) := ⟨fun w => ⟨by kernel_rfl, (fsOf (Tryz.prog.underlying 53)), by kernel_rfl, by kernel_rfl⟩⟩
instance : TInfo Tryz.prog 56 9 104 ([.int .i64 0, .int .u64 0, .string ⟨#[]⟩, .string ⟨#[]⟩, .int .i64 0, .string ⟨#[]⟩, .int .u64 0, .int .i64 0, .string ⟨#[]⟩]) := ⟨⟨(Tryz.prog.info? 56).getD default, .agg ([.int .i64 0, .int .u64 0, .string ⟨#[]⟩, .string ⟨#[]⟩, .int .i64 0, .string ⟨#[]⟩, .int .u64 0, .int .i64 0, .string ⟨#[]⟩]).toArray, by kernel_rfl, by kernel_rfl, by kernel_rfl, by kernel_rfl, by kernel_rfl, by kernel_rfl, by decide⟩⟩
instance : TAgg Tryz.prog 56 9 := ⟨fun w => ⟨by kernel_rfl, by kernel_rfl⟩⟩
instance : TField Tryz.prog 56 0 0 := ⟨fun w => ⟨(fsOf (Tryz.prog.underlying 56)), (fsOf (Tryz.prog.underlying 56)).getD 0 default, by kernel_rfl, by kernel_rfl, by kernel_rfl, by kernel_rfl, fun a => by kernel_rfl⟩⟩
instance : TField Tryz.prog 56 1 1 := ⟨fun w => ⟨(fsOf (Tryz.prog.underlying 56)), (fsOf (Tryz.prog.underlying 56)).getD 1 default, by kernel_rfl, by kernel_rfl, by kernel_rfl, by kernel_rfl, fun a => by kernel_rfl⟩⟩
instance : TField Tryz.prog 56 2 2 := ⟨fun w => ⟨(fsOf (Tryz.prog.underlying 56)), (fsOf (Tryz.prog.underlying 56)).getD 2 default, by kernel_rfl, by kernel_rfl, by kernel_rfl, by kernel_rfl, fun a => by kernel_rfl⟩⟩
instance : TField Tryz.prog 56 3 3 := ⟨fun w => ⟨(fsOf (Tryz.prog.underlying 56)), (fsOf (Tryz.prog.underlying 56)).getD 3 default, by kernel_rfl, by kernel_rfl, by kernel_rfl, by kernel_rfl, fun a => by kernel_rfl⟩⟩
instance : TField Tryz.prog 56 4 4 := ⟨fun w => ⟨(fsOf (Tryz.prog.underlying 56)), (fsOf (Tryz.prog.underlying 56)).getD 4 default, by kernel_rfl, by kernel_rfl, by kernel_rfl, by kernel_rfl, fun a => by kernel_rfl⟩⟩
instance : TField Tryz.prog 56 5 5 := ⟨fun w => ⟨(fsOf (Tryz.prog.underlying 56)), (fsOf (Tryz.prog.underlying 56)).getD 5 default, by kernel_rfl, by kernel_rfl, by kernel_rfl, by kernel_rfl, fun a => by kernel_rfl⟩⟩
instance : TField Tryz.prog 56 6 6 := ⟨fun w => ⟨(fsOf (Tryz.prog.underlying 56)), (fsOf (Tryz.prog.underlying 56)).getD 6 default, by kernel_rfl, by kernel_rfl, by kernel_rfl, by kernel_rfl, fun a => by kernel_rfl⟩⟩
instance : TField Tryz.prog 56 7 7 := ⟨fun w => ⟨(fsOf (Tryz.prog.underlying 56)), (fsOf (Tryz.prog.underlying 56)).getD 7 default, by kernel_rfl, by kernel_rfl, by kernel_rfl, by kernel_rfl, fun a => by kernel_rfl⟩⟩
instance : TField Tryz.prog 56 8 8 := ⟨fun w => ⟨(fsOf (Tryz.prog.underlying 56)), (fsOf (Tryz.prog.underlying 56)).getD 8 default, by kernel_rfl, by kernel_rfl, by kernel_rfl, by kernel_rfl, fun a => by kernel_rfl⟩⟩
instance : TPlaces Tryz.prog 56 [(0, 1), (1, 1), (2, 1), (3, 1), (4, 1), (5, 1), (6, 1), (7, 1), (8, 1)] ([.int .i64 0, .int .u64 0, .string ⟨#[]⟩, .string ⟨#[]⟩, .int .i64 0, .string ⟨#[]⟩, .int .u64 0, .int .i64 0, .string ⟨#[]⟩]) := ⟨fun w => ⟨by kernel_rfl, (fsOf (Tryz.prog.underlying 56)), by kernel_rfl, by kernel_rfl⟩⟩
instance : TInfo Tryz.prog 58 9 104 ([.int .i64 0, .int .u64 0, .string ⟨#[]⟩, .string ⟨#[]⟩, .int .i64 0, .string ⟨#[]⟩, .int .u64 0, .int .i64 0, .string ⟨#[]⟩]) := ⟨⟨(Tryz.prog.info? 58).getD default, .agg ([.int .i64 0, .int .u64 0, .string ⟨#[]⟩, .string ⟨#[]⟩, .int .i64 0, .string ⟨#[]⟩, .int .u64 0, .int .i64 0, .string ⟨#[]⟩]).toArray, by kernel_rfl, by kernel_rfl, by kernel_rfl, by kernel_rfl, by kernel_rfl, by kernel_rfl, by decide⟩⟩
instance : TAgg Tryz.prog 58 9 := ⟨fun w => ⟨by kernel_rfl, by kernel_rfl⟩⟩
instance : TField Tryz.prog 58 0 0 := ⟨fun w => ⟨(fsOf (Tryz.prog.underlying 58)), (fsOf (Tryz.prog.underlying 58)).getD 0 default, by kernel_rfl, by kernel_rfl, by kernel_rfl, by kernel_rfl, fun a => by kernel_rfl⟩⟩
instance : TField Tryz.prog 58 1 1 := ⟨fun w => ⟨(fsOf (Tryz.prog.underlying 58)), (fsOf (Tryz.prog.underlying 58)).getD 1 default, by kernel_rfl, by kernel_rfl, by kernel_rfl, by kernel_rfl, fun a => by kernel_rfl⟩⟩
instance : TField Tryz.prog 58 2 2 := ⟨fun w => ⟨(fsOf (Tryz.prog.underlying 58)), (fsOf (Tryz.prog.underlying 58)).getD 2 default, by kernel_rfl, by kernel_rfl, by kernel_rfl, by kernel_rfl, fun a => by kernel_rfl⟩⟩
instance : TField Tryz.prog 58 3 3 := ⟨fun w => ⟨(fsOf (Tryz.prog.underlying 58)), (fsOf (Tryz.prog.underlying 58)).getD 3 default, by kernel_rfl, by kernel_rfl, by kernel_rfl, by kernel_rfl, fun a => by kernel_rfl⟩⟩
instance : TField Tryz.prog 58 4 4 := ⟨fun w => ⟨(fsOf (Tryz.prog.underlying 58)), (fsOf (Tryz.prog.underlying 58)).getD 4 default, by kernel_rfl, by kernel_rfl, by kernel_rfl, by kernel_rfl, fun a => by kernel_rfl⟩⟩
instance : TField Tryz.prog 58 5 5 := ⟨fun w => ⟨(fsOf (Tryz.prog.underlying 58)), (fsOf (Tryz.prog.underlying 58)).getD 5 default, by kernel_rfl, by kernel_rfl, by kernel_rfl, by kernel_rfl, fun a => by kernel_rfl⟩⟩
instance : TField Tryz.prog 58 6 6 := ⟨fun w => ⟨(fsOf (Tryz.prog.underlying 58)), (fsOf (Tryz.prog.underlying 58)).getD 6 default, by kernel_rfl, by kernel_rfl, by kernel_rfl, by kernel_rfl, fun a => by kernel_rfl⟩⟩
instance : TField Tryz.prog 58 7 7 := ⟨fun w => ⟨(fsOf (Tryz.prog.underlying 58)), (fsOf (Tryz.prog.underlying 58)).getD 7 default, by kernel_rfl, by kernel_rfl, by kernel_rfl, by kernel_rfl, fun a => by kernel_rfl⟩⟩
instance : TField Tryz.prog 58 8 8 := ⟨fun w => ⟨(fsOf (Tryz.prog.underlying 58)), (fsOf (Tryz.prog.underlying 58)).getD 8 default, by kernel_rfl, by kernel_rfl, by kernel_rfl, by kernel_rfl, fun a => by kernel_rfl⟩⟩
instance : TPlaces Tryz.prog 58 [(0, 1), (1, 1), (2, 1), (3, 1), (4, 1), (5, 1), (6, 1), (7, 1), (8, 1)] ([.int .i64 0, .int .u64 0, .string ⟨#[]⟩, .string ⟨#[]⟩, .int .i64 0, .string ⟨#[]⟩, .int .u64 0, .int .i64 0, .string ⟨#[]⟩]) := ⟨fun w => ⟨by kernel_rfl, (fsOf (Tryz.prog.underlying 58)), by kernel_rfl, by kernel_rfl⟩⟩
instance : TInfo Tryz.prog 60 1 8 ([.nilFunc]) := ⟨⟨(Tryz.prog.info? 60).getD default, .nilFunc, by kernel_rfl, by kernel_rfl, by kernel_rfl, by kernel_rfl, by kernel_rfl, by kernel_rfl, by decide⟩⟩
instance : TCell Tryz.prog 60 := ⟨fun w => ⟨by kernel_rfl, by kernel_rfl⟩⟩
instance : TSlice Tryz.prog 63 104 := ⟨Tryz.underlying63⟩
instance : TInfo Tryz.prog 63 1 24 ([.slice none 0 0]) := ⟨⟨(Tryz.prog.info? 63).getD default, .slice none 0 0, by kernel_rfl, by kernel_rfl, by kernel_rfl, by kernel_rfl, by kernel_rfl, by kernel_rfl, by decide⟩⟩
instance : TCell Tryz.prog 63 := ⟨fun w => ⟨by kernel_rfl, by kernel_rfl⟩⟩
instance : TSlice Tryz.prog 64 142 := ⟨Tryz.underlying64⟩
instance : TInfo Tryz.prog 64 1 24 ([.slice none 0 0]) := ⟨⟨(Tryz.prog.info? 64).getD default, .slice none 0 0, by kernel_rfl, by kernel_rfl, by kernel_rfl, by kernel_rfl, by kernel_rfl, by kernel_rfl, by decide⟩⟩
instance : TCell Tryz.prog 64 := ⟨fun w => ⟨by kernel_rfl, by kernel_rfl⟩⟩
instance : TInfo Tryz.prog 66 4 64 ([.int .u64 0, .string ⟨#[]⟩, .string ⟨#[]⟩, .slice none 0 0]) := ⟨⟨(Tryz.prog.info? 66).getD default, .agg ([.int .u64 0, .string ⟨#[]⟩, .string ⟨#[]⟩, .slice none 0 0]).toArray, by kernel_rfl, by kernel_rfl, by kernel_rfl, by kernel_rfl, by kernel_rfl, by kernel_rfl, by decide⟩⟩
instance : TAgg Tryz.prog 66 4 := ⟨fun w => ⟨by kernel_rfl, by kernel_rfl⟩⟩
instance : TField Tryz.prog 66 0 0 := ⟨fun w => ⟨(fsOf (Tryz.prog.underlying 66)), (fsOf (Tryz.prog.underlying 66)).getD 0 default, by kernel_rfl, by kernel_rfl, by kernel_rfl, by kernel_rfl, fun a => by kernel_rfl⟩⟩
instance : TField Tryz.prog 66 1 1 := ⟨fun w => ⟨(fsOf (Tryz.prog.underlying 66)), (fsOf (Tryz.prog.underlying 66)).getD 1 default, by kernel_rfl, by kernel_rfl, by kernel_rfl, by kernel_rfl, fun a => by kernel_rfl⟩⟩
instance : TField Tryz.prog 66 2 2 := ⟨fun w => ⟨(fsOf (Tryz.prog.underlying 66)), (fsOf (Tryz.prog.underlying 66)).getD 2 default, by kernel_rfl, by kernel_rfl, by kernel_rfl, by kernel_rfl, fun a => by kernel_rfl⟩⟩
instance : TField Tryz.prog 66 3 3 := ⟨fun w => ⟨(fsOf (Tryz.prog.underlying 66)), (fsOf (Tryz.prog.underlying 66)).getD 3 default, by kernel_rfl, by kernel_rfl, by kernel_rfl, by kernel_rfl, fun a => by kernel_rfl⟩⟩
instance : TPlaces Tryz.prog 66 [(0, 1), (1, 1), (2, 1), (3, 1)] ([.int .u64 0, .string ⟨#[]⟩, .string ⟨#[]⟩, .slice none 0 0]) := ⟨fun w => ⟨by kernel_rfl, (fsOf (Tryz.prog.underlying 66)), by kernel_rfl, by kernel_rfl⟩⟩
instance : TInfo Tryz.prog 68 6 112 ([.slice none 0 0, .slice none 0 0, .int .u64 0, .string ⟨#[]⟩, .string ⟨#[]⟩, .slice none 0 0]) := ⟨⟨(Tryz.prog.info? 68).getD default, .agg ([.slice none 0 0, .slice none 0 0, .int .u64 0, .string ⟨#[]⟩, .string ⟨#[]⟩, .slice none 0 0]).toArray, by kernel_rfl, by kernel_rfl, by kernel_rfl, by kernel_rfl, by kernel_rfl, by kernel_rfl, by decide⟩⟩
instance : TAgg Tryz.prog 68 6 := ⟨fun w => ⟨by kernel_rfl, by kernel_rfl⟩⟩
instance : TField Tryz.prog 68 0 0 := ⟨fun w => ⟨(fsOf (Tryz.prog.underlying 68)), (fsOf (Tryz.prog.underlying 68)).getD 0 default, by kernel_rfl, by kernel_rfl, by kernel_rfl, by kernel_rfl, fun a => by kernel_rfl⟩⟩
instance : TField Tryz.prog 68 1 1 := ⟨fun w => ⟨(fsOf (Tryz.prog.underlying 68)), (fsOf (Tryz.prog.underlying 68)).getD 1 default, by kernel_rfl, by kernel_rfl, by kernel_rfl, by kernel_rfl, fun a => by kernel_rfl⟩⟩
instance : TFieldAgg Tryz.prog 68 2 2 4 := ⟨fun w => ⟨(fsOf (Tryz.prog.underlying 68)), (fsOf (Tryz.prog.underlying 68)).getD 2 default, by kernel_rfl, by kernel_rfl, by kernel_rfl, by kernel_rfl, by kernel_rfl, fun a => by kernel_rfl⟩⟩
instance : TPlaces Tryz.prog 68 [(0, 1), (1, 1), (2, 4)] ([.slice none 0 0, .slice none 0 0, .int .u64 0, .string ⟨#[]⟩, .string ⟨#[]⟩, .slice none 0 0]) := ⟨fun w => ⟨by kernel_rfl, (fsOf (Tryz.prog.underlying 68)), by kernel_rfl, by kernel_rfl⟩⟩
instance : TInfo Tryz.prog 74 1 8 ([.nilFunc]) := ⟨⟨(Tryz.prog.info? 74).getD default, .nilFunc, by kernel_rfl, by kernel_rfl, by kernel_rfl, by kernel_rfl, by kernel_rfl, by kernel_rfl, by decide⟩⟩
instance : TCell Tryz.prog 74 := ⟨fun w => ⟨by kernel_rfl, by kernel_rfl⟩⟩
instance : TSlice Tryz.prog 77 9 := ⟨Tryz.underlying77⟩
instance : TInfo Tryz.prog 77 1 24 ([.slice none 0 0]) := ⟨⟨(Tryz.prog.info? 77).getD default, .slice none 0 0, by kernel_rfl, by kernel_rfl, by kernel_rfl, by kernel_rfl, by kernel_rfl, by kernel_rfl, by decide⟩⟩
instance : TCell Tryz.prog 77 := ⟨fun w => ⟨by kernel_rfl, by kernel_rfl⟩⟩
instance : TInt Tryz.prog 78 .i64 := ⟨Tryz.underlying78⟩
instance : TInfo Tryz.prog 78 1 8 ([.int .i64 0]) := ⟨⟨(Tryz.prog.info? 78).getD default, .int .i64 0, by kernel_rfl, by kernel_rfl, by kernel_rfl, by kernel_rfl, by kernel_rfl, by kernel_rfl, by decide⟩⟩
instance : TCell Tryz.prog 78 := ⟨fun w => ⟨by kernel_rfl, by kernel_rfl⟩⟩
instance : TInfo Tryz.prog 80 2 24 ([.string ⟨#[]⟩, .int .i64 0]) := ⟨⟨(Tryz.prog.info? 80).getD default, .agg ([.string ⟨#[]⟩, .int .i64 0]).toArray, by kernel_rfl, by kernel_rfl, by kernel_rfl, by kernel_rfl, by kernel_rfl, by kernel_rfl, by decide⟩⟩
instance : TAgg Tryz.prog 80 2 := ⟨fun w => ⟨by kernel_rfl, by kernel_rfl⟩⟩
instance : TField Tryz.prog 80 0 0 := ⟨fun w => ⟨(fsOf (Tryz.prog.underlying 80)), (fsOf (Tryz.prog.underlying 80)).getD 0 default, by kernel_rfl, by kernel_rfl, by kernel_rfl, by kernel_rfl, fun a => by kernel_rfl⟩⟩
instance : TField Tryz.prog 80 1 1 := ⟨fun w => ⟨(fsOf (Tryz.prog.underlying 80)), (fsOf (Tryz.prog.underlying 80)).getD 1 default, by kernel_rfl, by kernel_rfl, by kernel_rfl, by kernel_rfl, fun a => by kernel_rfl⟩⟩
instance : TPlaces Tryz.prog 80 [(0, 1), (1, 1)] ([.string ⟨#[]⟩, .int .i64 0]) := ⟨fun w => ⟨by kernel_rfl, (fsOf (Tryz.prog.underlying 80)), by kernel_rfl, by kernel_rfl⟩⟩
instance : TPtr Tryz.prog 85 87 := ⟨Tryz.underlying85⟩
instance : TInfo Tryz.prog 85 1 8 ([.pointer none]) := ⟨⟨(Tryz.prog.info? 85).getD default, .pointer none, by kernel_rfl, by kernel_rfl, by kernel_rfl, by kernel_rfl, by kernel_rfl, by kernel_rfl, by decide⟩⟩
instance : TCell Tryz.prog 85 := ⟨fun w => ⟨by kernel_rfl, by kernel_rfl⟩⟩
instance : TInfo Tryz.prog 87 2 24 ([.string ⟨#[]⟩, .int .i64 0]) := ⟨⟨(Tryz.prog.info? 87).getD default, .agg ([.string ⟨#[]⟩, .int .i64 0]).toArray, by kernel_rfl, by kernel_rfl, by kernel_rfl, by kernel_rfl, by kernel_rfl, by kernel_rfl, by decide⟩⟩
instance : TAgg Tryz.prog 87 2 := ⟨fun w => ⟨by kernel_rfl, by kernel_rfl⟩⟩
instance : TField Tryz.prog 87 0 0 := ⟨fun w => ⟨(fsOf (Tryz.prog.underlying 87)), (fsOf (Tryz.prog.underlying 87)).getD 0 default, by kernel_rfl, by kernel_rfl, by kernel_rfl, by kernel_rfl, fun a => by kernel_rfl⟩⟩
instance : TField Tryz.prog 87 1 1 := ⟨fun w => ⟨(fsOf (Tryz.prog.underlying 87)), (fsOf (Tryz.prog.underlying 87)).getD 1 default, by kernel_rfl, by kernel_rfl, by kernel_rfl, by kernel_rfl, fun a => by kernel_rfl⟩⟩
instance : TPlaces Tryz.prog 87 [(0, 1), (1, 1)] ([.string ⟨#[]⟩, .int .i64 0]) := ⟨fun w => ⟨by kernel_rfl, (fsOf (Tryz.prog.underlying 87)), by kernel_rfl, by kernel_rfl⟩⟩
instance : TInfo Tryz.prog 89 1 8 ([.nilFunc]) := ⟨⟨(Tryz.prog.info? 89).getD default, .nilFunc, by kernel_rfl, by kernel_rfl, by kernel_rfl, by kernel_rfl, by kernel_rfl, by kernel_rfl, by decide⟩⟩
instance : TCell Tryz.prog 89 := ⟨fun w => ⟨by kernel_rfl, by kernel_rfl⟩⟩
instance : TInfo Tryz.prog 92 1 8 ([.nilFunc]) := ⟨⟨(Tryz.prog.info? 92).getD default, .nilFunc, by kernel_rfl, by kernel_rfl, by kernel_rfl, by kernel_rfl, by kernel_rfl, by kernel_rfl, by decide⟩⟩
instance : TCell Tryz.prog 92 := ⟨fun w => ⟨by kernel_rfl, by kernel_rfl⟩⟩
instance : TInfo Tryz.prog 97 4 48 ([.string ⟨#[]⟩, .int .i64 0, .int .i64 0, .string ⟨#[]⟩]) := ⟨⟨(Tryz.prog.info? 97).getD default, .agg ([.string ⟨#[]⟩, .int .i64 0, .int .i64 0, .string ⟨#[]⟩]).toArray, by kernel_rfl, by kernel_rfl, by kernel_rfl, by kernel_rfl, by kernel_rfl, by kernel_rfl, by decide⟩⟩
instance : TAgg Tryz.prog 97 4 := ⟨fun w => ⟨by kernel_rfl, by kernel_rfl⟩⟩
instance : TFieldAgg Tryz.prog 97 0 0 2 := ⟨fun w => ⟨(fsOf (Tryz.prog.underlying 97)), (fsOf (Tryz.prog.underlying 97)).getD 0 default, by kernel_rfl, by kernel_rfl, by kernel_rfl, by kernel_rfl, by kernel_rfl, fun a => by kernel_rfl⟩⟩
instance : TField Tryz.prog 97 1 2 := ⟨fun w => ⟨(fsOf (Tryz.prog.underlying 97)), (fsOf (Tryz.prog.underlying 97)).getD 1 default, by kernel_rfl, by kernel_rfl, by kernel_rfl, by kernel_rfl, fun a => by kernel_rfl⟩⟩
instance : TField Tryz.prog 97 2 3 := ⟨fun w => ⟨(fsOf (Tryz.prog.underlying 97)), (fsOf (Tryz.prog.underlying 97)).getD 2 default, by kernel_rfl, by kernel_rfl, by kernel_rfl, by kernel_rfl, fun a => by kernel_rfl⟩⟩
instance : TPlaces Tryz.prog 97 [(0, 2), (2, 1), (3, 1)] ([.string ⟨#[]⟩, .int .i64 0, .int .i64 0, .string ⟨#[]⟩]) := ⟨fun w => ⟨by kernel_rfl, (fsOf (Tryz.prog.underlying 97)), by kernel_rfl, by kernel_rfl⟩⟩
instance : TMap Tryz.prog 98 43 4 := ⟨Tryz.underlying98⟩
instance : TInfo Tryz.prog 98 1 8 ([.map none]) := ⟨⟨(Tryz.prog.info? 98).getD default, .map none, by kernel_rfl, by kernel_rfl, by kernel_rfl, by kernel_rfl, by kernel_rfl, by kernel_rfl, by decide⟩⟩
instance : TCell Tryz.prog 98 := ⟨fun w => ⟨by kernel_rfl, by kernel_rfl⟩⟩
instance : TInfo Tryz.prog 99 1 8 ([.nilFunc]) := ⟨⟨(Tryz.prog.info? 99).getD default, .nilFunc, by kernel_rfl, by kernel_rfl, by kernel_rfl, by kernel_rfl, by kernel_rfl, by kernel_rfl, by decide⟩⟩
instance : TCell Tryz.prog 99 := ⟨fun w => ⟨by kernel_rfl, by kernel_rfl⟩⟩
instance : TInfo Tryz.prog 104 4 48 ([.string ⟨#[]⟩, .int .i64 0, .int .i64 0, .string ⟨#[]⟩]) := ⟨⟨(Tryz.prog.info? 104).getD default, .agg ([.string ⟨#[]⟩, .int .i64 0, .int .i64 0, .string ⟨#[]⟩]).toArray, by kernel_rfl, by kernel_rfl, by kernel_rfl, by kernel_rfl, by kernel_rfl, by kernel_rfl, by decide⟩⟩
instance : TAgg Tryz.prog 104 4 := ⟨fun w => ⟨by kernel_rfl, by kernel_rfl⟩⟩
instance : TFieldAgg Tryz.prog 104 0 0 2 := ⟨fun w => ⟨(fsOf (Tryz.prog.underlying 104)), (fsOf (Tryz.prog.underlying 104)).getD 0 default, by kernel_rfl, by kernel_rfl, by kernel_rfl, by kernel_rfl, by kernel_rfl, fun a => by kernel_rfl⟩⟩
instance : TField Tryz.prog 104 1 2 := ⟨fun w => ⟨(fsOf (Tryz.prog.underlying 104)), (fsOf (Tryz.prog.underlying 104)).getD 1 default, by kernel_rfl, by kernel_rfl, by kernel_rfl, by kernel_rfl, fun a => by kernel_rfl⟩⟩
instance : TField Tryz.prog 104 2 3 := ⟨fun w => ⟨(fsOf (Tryz.prog.underlying 104)), (fsOf (Tryz.prog.underlying 104)).getD 2 default, by kernel_rfl, by kernel_rfl, by kernel_rfl, by kernel_rfl, fun a => by kernel_rfl⟩⟩
instance : TPlaces Tryz.prog 104 [(0, 2), (2, 1), (3, 1)] ([.string ⟨#[]⟩, .int .i64 0, .int .i64 0, .string ⟨#[]⟩]) := ⟨fun w => ⟨by kernel_rfl, (fsOf (Tryz.prog.underlying 104)), by kernel_rfl, by kernel_rfl⟩⟩
instance : TSlice Tryz.prog 108 5 := ⟨Tryz.underlying108⟩
instance : TInfo Tryz.prog 108 1 24 ([.slice none 0 0]) := ⟨⟨(Tryz.prog.info? 108).getD default, .slice none 0 0, by kernel_rfl, by kernel_rfl, by kernel_rfl, by kernel_rfl, by kernel_rfl, by kernel_rfl, by decide⟩⟩
instance : TCell Tryz.prog 108 := ⟨fun w => ⟨by kernel_rfl, by kernel_rfl⟩⟩
instance : TInt Tryz.prog 109 .u64 := ⟨Tryz.underlying109⟩
instance : TInfo Tryz.prog 109 1 8 ([.int .u64 0]) := ⟨⟨(Tryz.prog.info? 109).getD default, .int .u64 0, by kernel_rfl, by kernel_rfl, by kernel_rfl, by kernel_rfl, by kernel_rfl, by kernel_rfl, by decide⟩⟩
instance : TCell Tryz.prog 109 := ⟨fun w => ⟨by kernel_rfl, by kernel_rfl⟩⟩
instance : TInfo Tryz.prog 110 1 8 ([.nilFunc]) := ⟨⟨(Tryz.prog.info? 110).getD default, .nilFunc, by kernel_rfl, by kernel_rfl, by kernel_rfl, by kernel_rfl, by kernel_rfl, by kernel_rfl, by decide⟩⟩
instance : TCell Tryz.prog 110 := ⟨fun w => ⟨by kernel_rfl, by kernel_rfl⟩⟩
instance : TPtr Tryz.prog 113 80 := ⟨Tryz.underlying113⟩
instance : TInfo Tryz.prog 113 1 8 ([.pointer none]) := ⟨⟨(Tryz.prog.info? 113).getD default, .pointer none, by kernel_rfl, by kernel_rfl, by kernel_rfl, by kernel_rfl, by kernel_rfl, by kernel_rfl, by decide⟩⟩
instance : TCell Tryz.prog 113 := ⟨fun w => ⟨by kernel_rfl, by kernel_rfl⟩⟩
instance : TPtr Tryz.prog 122 146 := ⟨Tryz.underlying122⟩
instance : TInfo Tryz.prog 122 1 8 ([.pointer none]) := ⟨⟨(Tryz.prog.info? 122).getD default, .pointer none, by kernel_rfl, by kernel_rfl, by kernel_rfl, by kernel_rfl, by kernel_rfl, by kernel_rfl, by decide⟩⟩
instance : TCell Tryz.prog 122 := ⟨fun w => ⟨by kernel_rfl, by kernel_rfl⟩⟩
instance : TInfo Tryz.prog 133 8 88 ([.string ⟨#[]⟩, .int .u64 0, .int .u64 0, .int .u64 0, .int .u64 0, .string ⟨#[]⟩, .int .u64 0, .string ⟨#[]⟩]) := ⟨⟨(Tryz.prog.info? 133).getD default, .agg ([.string ⟨#[]⟩, .int .u64 0, .int .u64 0, .int .u64 0, .int .u64 0, .string ⟨#[]⟩, .int .u64 0, .string ⟨#[]⟩]).toArray, by kernel_rfl, by kernel_rfl, by kernel_rfl, by kernel_rfl, by kernel_rfl, by kernel_rfl, by decide⟩⟩
instance : TAgg Tryz.prog 133 8 := ⟨fun w => ⟨by kernel_rfl, by kernel_rfl⟩⟩
instance : TField Tryz.prog 133 0 0 := ⟨fun w => ⟨(fsOf (Tryz.prog.underlying 133)), (fsOf (Tryz.prog.underlying 133)).getD 0 default, by kernel_rfl, by kernel_rfl, by kernel_rfl, by kernel_rfl, fun a => by kernel_rfl⟩⟩
instance : TField Tryz.prog 133 1 1 := ⟨fun w => ⟨(fsOf (Tryz.prog.underlying 133)), (fsOf (Tryz.prog.underlying 133)).getD 1 default, by kernel_rfl, by kernel_rfl, by kernel_rfl, by kernel_rfl, fun a => by kernel_rfl⟩⟩
instance : TField Tryz.prog 133 2 2 := ⟨fun w => ⟨(fsOf (Tryz.prog.underlying 133)), (fsOf (Tryz.prog.underlying 133)).getD 2 default, by kernel_rfl, by kernel_rfl, by kernel_rfl, by kernel_rfl, fun a => by kernel_rfl⟩⟩
instance : TField Tryz.prog 133 3 3 := ⟨fun w => ⟨(fsOf (Tryz.prog.underlying 133)), (fsOf (Tryz.prog.underlying 133)).getD 3 default, by kernel_rfl, by kernel_rfl, by kernel_rfl, by kernel_rfl, fun a => by kernel_rfl⟩⟩
instance : TField Tryz.prog 133 4 4 := ⟨fun w => ⟨(fsOf (Tryz.prog.underlying 133)), (fsOf (Tryz.prog.underlying 133)).getD 4 default, by kernel_rfl, by kernel_rfl, by kernel_rfl, by kernel_rfl, fun a => by kernel_rfl⟩⟩
instance : TField Tryz.prog 133 5 5 := ⟨fun w => ⟨(fsOf (Tryz.prog.underlying 133)), (fsOf (Tryz.prog.underlying 133)).getD 5 default, by kernel_rfl, by kernel_rfl, by kernel_rfl, by kernel_rfl, fun a => by kernel_rfl⟩⟩
instance : TField Tryz.prog 133 6 6 := ⟨fun w => ⟨(fsOf (Tryz.prog.underlying 133)), (fsOf (Tryz.prog.underlying 133)).getD 6 default, by kernel_rfl, by kernel_rfl, by kernel_rfl, by kernel_rfl, fun a => by kernel_rfl⟩⟩
instance : TField Tryz.prog 133 7 7 := ⟨fun w => ⟨(fsOf (Tryz.prog.underlying 133)), (fsOf (Tryz.prog.underlying 133)).getD 7 default, by kernel_rfl, by kernel_rfl, by kernel_rfl, by kernel_rfl, fun a => by kernel_rfl⟩⟩
instance : TPlaces Tryz.prog 133 [(0, 1), (1, 1), (2, 1), (3, 1), (4, 1), (5, 1), (6, 1), (7, 1)] ([.string ⟨#[]⟩, .int .u64 0, .int .u64 0, .int .u64 0, .int .u64 0, .string ⟨#[]⟩, .int .u64 0, .string ⟨#[]⟩]) := ⟨fun w => ⟨by kernel_rfl, (fsOf (Tryz.prog.underlying 133)), by kernel_rfl, by kernel_rfl⟩⟩
instance : TInfo Tryz.prog 135 10 112 ([.string ⟨#[]⟩, .int .u64 0, .int .u64 0, .int .u64 0, .int .u64 0, .string ⟨#[]⟩, .int .u64 0, .string ⟨#[]⟩, .string ⟨#[]⟩, .int .u64 0]) := ⟨⟨(Tryz.prog.info? 135).getD default, .agg ([.string ⟨#[]⟩, .int .u64 0, .int .u64 0, .int .u64 0, .int .u64 0, .string ⟨#[]⟩, .int .u64 0, .string ⟨#[]⟩, .string ⟨#[]⟩, .int .u64 0]).toArray, by kernel_rfl, by kernel_rfl, by kernel_rfl, by kernel_rfl, by kernel_rfl, by kernel_rfl, by decide⟩⟩
instance : TAgg Tryz.prog 135 10 := ⟨fun w => ⟨by kernel_rfl, by kernel_rfl⟩⟩
instance : TFieldAgg Tryz.prog 135 0 0 8 := ⟨fun w => ⟨(fsOf (Tryz.prog.underlying 135)), (fsOf (Tryz.prog.underlying 135)).getD 0 default, by kernel_rfl, by kernel_rfl, by kernel_rfl, by kernel_rfl, by kernel_rfl, fun a => by kernel_rfl⟩⟩
instance : TField Tryz.prog 135 1 8 := ⟨fun w => ⟨(fsOf (Tryz.prog.underlying 135)), (fsOf (Tryz.prog.underlying 135)).getD 1 default, by kernel_rfl, by kernel_rfl, by kernel_rfl, by kernel_rfl, fun a => by kernel_rfl⟩⟩
instance : TField Tryz.prog 135 2 9 := ⟨fun w => ⟨(fsOf (Tryz.prog.underlying 135)), (fsOf (Tryz.prog.underlying 135)).getD 2 default, by kernel_rfl, by kernel_rfl, by kernel_rfl, by kernel_rfl, fun a => by kernel_rfl⟩⟩
instance : TPlaces Tryz.prog 135 [(0, 8), (8, 1), (9, 1)] ([.string ⟨#[]⟩, .int .u64 0, .int .u64 0, .int .u64 0, .int .u64 0, .string ⟨#[]⟩, .int .u64 0, .string ⟨#[]⟩, .string ⟨#[]⟩, .int .u64 0]) := ⟨fun w => ⟨by kernel_rfl, (fsOf (Tryz.prog.underlying 135)), by kernel_rfl, by kernel_rfl⟩⟩
instance : TInfo Tryz.prog 140 8 88 ([.string ⟨#[]⟩, .int .u64 0, .int .u64 0, .int .u64 0, .int .u64 0, .string ⟨#[]⟩, .int .u64 0, .string ⟨#[]⟩]) := ⟨⟨(Tryz.prog.info? 140).getD default, .agg ([.string ⟨#[]⟩, .int .u64 0, .int .u64 0, .int .u64 0, .int .u64 0, .string ⟨#[]⟩, .int .u64 0, .string ⟨#[]⟩]).toArray, by kernel_rfl, by kernel_rfl, by kernel_rfl, by kernel_rfl, by kernel_rfl, by kernel_rfl, by decide⟩⟩
instance : TAgg Tryz.prog 140 8 := ⟨fun w => ⟨by kernel_rfl, by kernel_rfl⟩⟩
instance : TField Tryz.prog 140 0 0 := ⟨fun w => ⟨(fsOf (Tryz.prog.underlying 140)), (fsOf (Tryz.prog.underlying 140)).getD 0 default, by kernel_rfl, by kernel_rfl, by kernel_rfl, by kernel_rfl, fun a => by kernel_rfl⟩⟩
instance : TField Tryz.prog 140 1 1 := ⟨fun w => ⟨(fsOf (Tryz.prog.underlying 140)), (fsOf (Tryz.prog.underlying 140)).getD 1 default, by kernel_rfl, by kernel_rfl, by kernel_rfl, by kernel_rfl, fun a => by kernel_rfl⟩⟩
instance : TField Tryz.prog 140 2 2 := ⟨fun w => ⟨(fsOf (Tryz.prog.underlying 140)), (fsOf (Tryz.prog.underlying 140)).getD 2 default, by kernel_rfl, by kernel_rfl, by kernel_rfl, by kernel_rfl, fun a => by kernel_rfl⟩⟩
instance : TField Tryz.prog 140 3 3 := ⟨fun w => ⟨(fsOf (Tryz.prog.underlying 140)), (fsOf (Tryz.prog.underlying 140)).getD 3 default, by kernel_rfl, by kernel_rfl, by kernel_rfl, by kernel_rfl, fun a => by kernel_rfl⟩⟩
instance : TField Tryz.prog 140 4 4 := ⟨fun w => ⟨(fsOf (Tryz.prog.underlying 140)), (fsOf (Tryz.prog.underlying 140)).getD 4 default, by kernel_rfl, by kernel_rfl, by kernel_rfl, by kernel_rfl, fun a => by kernel_rfl⟩⟩
instance : TField Tryz.prog 140 5 5 := ⟨fun w => ⟨(fsOf (Tryz.prog.underlying 140)), (fsOf (Tryz.prog.underlying 140)).getD 5 default, by kernel_rfl, by kernel_rfl, by kernel_rfl, by kernel_rfl, fun a => by kernel_rfl⟩⟩
instance : TField Tryz.prog 140 6 6 := ⟨fun w => ⟨(fsOf (Tryz.prog.underlying 140)), (fsOf (Tryz.prog.underlying 140)).getD 6 default, by kernel_rfl, by kernel_rfl, by kernel_rfl, by kernel_rfl, fun a => by kernel_rfl⟩⟩
instance : TField Tryz.prog 140 7 7 := ⟨fun w => ⟨(fsOf (Tryz.prog.underlying 140)), (fsOf (Tryz.prog.underlying 140)).getD 7 default, by kernel_rfl, by kernel_rfl, by kernel_rfl, by kernel_rfl, fun a => by kernel_rfl⟩⟩
instance : TPlaces Tryz.prog 140 [(0, 1), (1, 1), (2, 1), (3, 1), (4, 1), (5, 1), (6, 1), (7, 1)] ([.string ⟨#[]⟩, .int .u64 0, .int .u64 0, .int .u64 0, .int .u64 0, .string ⟨#[]⟩, .int .u64 0, .string ⟨#[]⟩]) := ⟨fun w => ⟨by kernel_rfl, (fsOf (Tryz.prog.underlying 140)), by kernel_rfl, by kernel_rfl⟩⟩
instance : TInfo Tryz.prog 142 10 112 ([.string ⟨#[]⟩, .int .u64 0, .int .u64 0, .int .u64 0, .int .u64 0, .string ⟨#[]⟩, .int .u64 0, .string ⟨#[]⟩, .string ⟨#[]⟩, .int .u64 0]) := ⟨⟨(Tryz.prog.info? 142).getD default, .agg ([.string ⟨#[]⟩, .int .u64 0, .int .u64 0, .int .u64 0, .int .u64 0, .string ⟨#[]⟩, .int .u64 0, .string ⟨#[]⟩, .string ⟨#[]⟩, .int .u64 0]).toArray, by kernel_rfl, by kernel_rfl, by kernel_rfl, by kernel_rfl, by kernel_rfl, by kernel_rfl, by decide⟩⟩
instance : TAgg Tryz.prog 142 10 := ⟨fun w => ⟨by kernel_rfl, by kernel_rfl⟩⟩
instance : TFieldAgg Tryz.prog 142 0 0 8 := ⟨fun w => ⟨(fsOf (Tryz.prog.underlying 142)), (fsOf (Tryz.prog.underlying 142)).getD 0 default, by kernel_rfl, by kernel_rfl, by kernel_rfl, by kernel_rfl, by kernel_rfl, fun a => by kernel_rfl⟩⟩
instance : TField Tryz.prog 142 1 8 := ⟨fun w => ⟨(fsOf (Tryz.prog.underlying 142)), (fsOf (Tryz.prog.underlying 142)).getD 1 default, by kernel_rfl, by kernel_rfl, by kernel_rfl, by kernel_rfl, fun a => by kernel_rfl⟩⟩
instance : TField Tryz.prog 142 2 9 := ⟨fun w => ⟨(fsOf (Tryz.prog.underlying 142)), (fsOf (Tryz.prog.underlying 142)).getD 2 default, by kernel_rfl, by kernel_rfl, by kernel_rfl, by kernel_rfl, fun a => by kernel_rfl⟩⟩
instance : TPlaces Tryz.prog 142 [(0, 8), (8, 1), (9, 1)] ([.string ⟨#[]⟩, .int .u64 0, .int .u64 0, .int .u64 0, .int .u64 0, .string ⟨#[]⟩, .int .u64 0, .string ⟨#[]⟩, .string ⟨#[]⟩, .int .u64 0]) := ⟨fun w => ⟨by kernel_rfl, (fsOf (Tryz.prog.underlying 142)), by kernel_rfl, by kernel_rfl⟩⟩
instance : TInfo Tryz.prog 146 2 24 ([.string ⟨#[]⟩, .int .i64 0]) := ⟨⟨(Tryz.prog.info? 146).getD default, .agg ([.string ⟨#[]⟩, .int .i64 0]).toArray, by kernel_rfl, by kernel_rfl, by kernel_rfl, by kernel_rfl, by kernel_rfl, by kernel_rfl, by decide⟩⟩
instance : TAgg Tryz.prog 146 2 := ⟨fun w => ⟨by kernel_rfl, by kernel_rfl⟩⟩
instance : TField Tryz.prog 146 0 0 := ⟨fun w => ⟨(fsOf (Tryz.prog.underlying 146)), (fsOf (Tryz.prog.underlying 146)).getD 0 default, by kernel_rfl, by kernel_rfl, by kernel_rfl, by kernel_rfl, fun a => by kernel_rfl⟩⟩
instance : TField Tryz.prog 146 1 1 := ⟨fun w => ⟨(fsOf (Tryz.prog.underlying 146)), (fsOf (Tryz.prog.underlying 146)).getD 1 default, by kernel_rfl, by kernel_rfl, by kernel_rfl, by kernel_rfl, fun a => by kernel_rfl⟩⟩
instance : TPlaces Tryz.prog 146 [(0, 1), (1, 1)] ([.string ⟨#[]⟩, .int .i64 0]) := ⟨fun w => ⟨by kernel_rfl, (fsOf (Tryz.prog.underlying 146)), by kernel_rfl, by kernel_rfl⟩⟩
instance : TInfo Tryz.prog 148 1 8 ([.nilFunc]) := ⟨⟨(Tryz.prog.info? 148).getD default, .nilFunc, by kernel_rfl, by kernel_rfl, by kernel_rfl, by kernel_rfl, by kernel_rfl, by kernel_rfl, by decide⟩⟩
instance : TCell Tryz.prog 148 := ⟨fun w => ⟨by kernel_rfl, by kernel_rfl⟩⟩
instance : TInfo Tryz.prog 151 1 8 ([.nilFunc]) := ⟨⟨(Tryz.prog.info? 151).getD default, .nilFunc, by kernel_rfl, by kernel_rfl, by kernel_rfl, by kernel_rfl, by kernel_rfl, by kernel_rfl, by decide⟩⟩
instance : TCell Tryz.prog 151 := ⟨fun w => ⟨by kernel_rfl, by kernel_rfl⟩⟩
instance : TPtr Tryz.prog 157 172 := ⟨Tryz.underlying157⟩
instance : TInfo Tryz.prog 157 1 8 ([.pointer none]) := ⟨⟨(Tryz.prog.info? 157).getD default, .pointer none, by kernel_rfl, by kernel_rfl, by kernel_rfl, by kernel_rfl, by kernel_rfl, by kernel_rfl, by decide⟩⟩
instance : TCell Tryz.prog 157 := ⟨fun w => ⟨by kernel_rfl, by kernel_rfl⟩⟩
instance : TInt Tryz.prog 159 .u32 := ⟨Tryz.underlying159⟩
instance : TInfo Tryz.prog 159 1 4 ([.int .u32 0]) := ⟨⟨(Tryz.prog.info? 159).getD default, .int .u32 0, by kernel_rfl, by kernel_rfl, by kernel_rfl, by kernel_rfl, by kernel_rfl, by kernel_rfl, by decide⟩⟩
instance : TCell Tryz.prog 159 := ⟨fun w => ⟨by kernel_rfl, by kernel_rfl⟩⟩
instance : TSlice Tryz.prog 160 159 := ⟨Tryz.underlying160⟩
instance : TInfo Tryz.prog 160 1 24 ([.slice none 0 0]) := ⟨⟨(Tryz.prog.info? 160).getD default, .slice none 0 0, by kernel_rfl, by kernel_rfl, by kernel_rfl, by kernel_rfl, by kernel_rfl, by kernel_rfl, by decide⟩⟩
instance : TCell Tryz.prog 160 := ⟨fun w => ⟨by kernel_rfl, by kernel_rfl⟩⟩
instance : TSlice Tryz.prog 164 48 := ⟨Tryz.underlying164⟩
instance : TInfo Tryz.prog 164 1 24 ([.slice none 0 0]) := ⟨⟨(Tryz.prog.info? 164).getD default, .slice none 0 0, by kernel_rfl, by kernel_rfl, by kernel_rfl, by kernel_rfl, by kernel_rfl, by kernel_rfl, by decide⟩⟩
instance : TCell Tryz.prog 164 := ⟨fun w => ⟨by kernel_rfl, by kernel_rfl⟩⟩
instance : TArr Tryz.prog 168 8 159 := ⟨Tryz.underlying168⟩
instance : TInfo Tryz.prog 168 8 32 (List.replicate 8 (.int .u32 0)) := ⟨⟨(Tryz.prog.info? 168).getD default, .agg (List.replicate 8 (.int .u32 0)).toArray, by kernel_rfl, by kernel_rfl, by kernel_rfl, by kernel_rfl, by kernel_rfl, by kernel_rfl, by decide⟩⟩
instance : TAgg Tryz.prog 168 8 := ⟨fun w => ⟨by kernel_rfl, by kernel_rfl⟩⟩
instance : TArr Tryz.prog 169 8 159 := ⟨Tryz.underlying169⟩
instance : TInfo Tryz.prog 169 8 32 (List.replicate 8 (.int .u32 0)) := ⟨⟨(Tryz.prog.info? 169).getD default, .agg (List.replicate 8 (.int .u32 0)).toArray, by kernel_rfl, by kernel_rfl, by kernel_rfl, by kernel_rfl, by kernel_rfl, by kernel_rfl, by decide⟩⟩
instance : TAgg Tryz.prog 169 8 := ⟨fun w => ⟨by kernel_rfl, by kernel_rfl⟩⟩
instance : TInfo Tryz.prog 172 10 56 ([.int .u32 0, .int .u32 0, .int .u32 0, .int .u32 0, .int .u32 0, .int .u32 0, .int .u32 0, .int .u32 0, .string ⟨#[]⟩, .int .i64 0]) := ⟨⟨(Tryz.prog.info? 172).getD default, .agg ([.int .u32 0, .int .u32 0, .int .u32 0, .int .u32 0, .int .u32 0, .int .u32 0, .int .u32 0, .int .u32 0, .string ⟨#[]⟩, .int .i64 0]).toArray, by kernel_rfl, by kernel_rfl, by kernel_rfl, by kernel_rfl, by kernel_rfl, by kernel_rfl, by decide⟩⟩
instance : TAgg Tryz.prog 172 10 := ⟨fun w => ⟨by kernel_rfl, by kernel_rfl⟩⟩
instance : TFieldAgg Tryz.prog 172 0 0 8 := ⟨fun w => ⟨(fsOf (Tryz.prog.underlying 172)), (fsOf (Tryz.prog.underlying 172)).getD 0 default, by kernel_rfl, by kernel_rfl, by kernel_rfl, by kernel_rfl, by kernel_rfl, fun a => by kernel_rfl⟩⟩
instance : TField Tryz.prog 172 1 8 := ⟨fun w => ⟨(fsOf (Tryz.prog.underlying 172)), (fsOf (Tryz.prog.underlying 172)).getD 1 default, by kernel_rfl, by kernel_rfl, by kernel_rfl, by kernel_rfl, fun a => by kernel_rfl⟩⟩
instance : TField Tryz.prog 172 2 9 := ⟨fun w => ⟨(fsOf (Tryz.prog.underlying 172)), (fsOf (Tryz.prog.underlying 172)).getD 2 default, by kernel_rfl, by kernel_rfl, by kernel_rfl, by kernel_rfl, fun a => by kernel_rfl⟩⟩
instance : TPlaces Tryz.prog 172 [(0, 8), (8, 1), (9, 1)] ([.int .u32 0, .int .u32 0, .int .u32 0, .int .u32 0, .int .u32 0, .int .u32 0, .int .u32 0, .int .u32 0, .string ⟨#[]⟩, .int .i64 0]) := ⟨fun w => ⟨by kernel_rfl, (fsOf (Tryz.prog.underlying 172)), by kernel_rfl, by kernel_rfl⟩⟩
instance : TPtr Tryz.prog 176 169 := ⟨Tryz.underlying176⟩
instance : TInfo Tryz.prog 176 1 8 ([.pointer none]) := ⟨⟨(Tryz.prog.info? 176).getD default, .pointer none, by kernel_rfl, by kernel_rfl, by kernel_rfl, by kernel_rfl, by kernel_rfl, by kernel_rfl, by decide⟩⟩
instance : TCell Tryz.prog 176 := ⟨fun w => ⟨by kernel_rfl, by kernel_rfl⟩⟩
instance : TPtr Tryz.prog 177 180 := ⟨Tryz.underlying177⟩
instance : TInfo Tryz.prog 177 1 8 ([.pointer none]) := ⟨⟨(Tryz.prog.info? 177).getD default, .pointer none, by kernel_rfl, by kernel_rfl, by kernel_rfl, by kernel_rfl, by kernel_rfl, by kernel_rfl, by decide⟩⟩
instance : TCell Tryz.prog 177 := ⟨fun w => ⟨by kernel_rfl, by kernel_rfl⟩⟩
instance : TArr Tryz.prog 180 64 159 := ⟨Tryz.underlying180⟩
instance : TInfo Tryz.prog 180 64 256 (List.replicate 64 (.int .u32 0)) := ⟨⟨(Tryz.prog.info? 180).getD default, .agg (List.replicate 64 (.int .u32 0)).toArray, by kernel_rfl, by kernel_rfl, by kernel_rfl, by kernel_rfl, by kernel_rfl, by kernel_rfl, by decide⟩⟩
instance : TAgg Tryz.prog 180 64 := ⟨fun w => ⟨by kernel_rfl, by kernel_rfl⟩⟩
instance : HasBody Tryz.prog 3 := ⟨Tryz.call3⟩
instance : HasBody Tryz.prog 4 := ⟨Tryz.call4⟩
instance : HasBody Tryz.prog 5 := ⟨Tryz.call5⟩
instance : HasBody Tryz.prog 6 := ⟨Tryz.call6⟩
instance : HasBody Tryz.prog 7 := ⟨Tryz.call7⟩
instance : HasBody Tryz.prog 8 := ⟨Tryz.call8⟩
instance : HasBody Tryz.prog 9 := ⟨Tryz.call9⟩
instance : HasBody Tryz.prog 10 := ⟨Tryz.call10⟩
instance : HasBody Tryz.prog 11 := ⟨Tryz.call11⟩
instance : HasBody Tryz.prog 12 := ⟨Tryz.call12⟩
instance : HasBody Tryz.prog 13 := ⟨Tryz.call13⟩
instance : HasBody Tryz.prog 14 := ⟨Tryz.call14⟩
instance : HasBody Tryz.prog 15 := ⟨Tryz.call15⟩
instance : HasBody Tryz.prog 16 := ⟨Tryz.call16⟩
instance : HasBody Tryz.prog 17 := ⟨Tryz.call17⟩
instance : HasBody Tryz.prog 18 := ⟨Tryz.call18⟩
instance : HasBody Tryz.prog 19 := ⟨Tryz.call19⟩
instance : HasBody Tryz.prog 20 := ⟨Tryz.call20⟩
instance : HasBody Tryz.prog 21 := ⟨Tryz.call21⟩
instance : HasBody Tryz.prog 22 := ⟨Tryz.call22⟩
instance : HasBody Tryz.prog 23 := ⟨Tryz.call23⟩
instance : HasBody Tryz.prog 24 := ⟨Tryz.call24⟩
instance : HasBody Tryz.prog 25 := ⟨Tryz.call25⟩
instance : HasBody Tryz.prog 26 := ⟨Tryz.call26⟩
instance : HasBody Tryz.prog 27 := ⟨Tryz.call27⟩
instance : HasBody Tryz.prog 28 := ⟨Tryz.call28⟩
instance : HasBody Tryz.prog 29 := ⟨Tryz.call29⟩
instance : HasBody Tryz.prog 30 := ⟨Tryz.call30⟩
instance : HasBody Tryz.prog 31 := ⟨Tryz.call31⟩
instance : HasBody Tryz.prog 32 := ⟨Tryz.call32⟩
instance : HasBody Tryz.prog 33 := ⟨Tryz.call33⟩
instance : HasBody Tryz.prog 34 := ⟨Tryz.call34⟩
instance : HasBody Tryz.prog 35 := ⟨Tryz.call35⟩
instance : HasBody Tryz.prog 36 := ⟨Tryz.call36⟩
instance : HasBody Tryz.prog 37 := ⟨Tryz.call37⟩
instance : HasBody Tryz.prog 38 := ⟨Tryz.call38⟩
instance : HasBody Tryz.prog 39 := ⟨Tryz.call39⟩
instance : HasBody Tryz.prog 40 := ⟨Tryz.call40⟩
instance : HasBody Tryz.prog 41 := ⟨Tryz.call41⟩
instance : HasBody Tryz.prog 42 := ⟨Tryz.call42⟩
instance : HasBody Tryz.prog 43 := ⟨Tryz.call43⟩
instance : HasBody Tryz.prog 44 := ⟨Tryz.call44⟩
instance : HasBody Tryz.prog 45 := ⟨Tryz.call45⟩
instance : HasBody Tryz.prog 46 := ⟨Tryz.call46⟩
instance : HasBody Tryz.prog 47 := ⟨Tryz.call47⟩
instance : HasBody Tryz.prog 48 := ⟨Tryz.call48⟩
instance : HasBody Tryz.prog 49 := ⟨Tryz.call49⟩
instance : HasBody Tryz.prog 50 := ⟨Tryz.call50⟩
instance : HasBody Tryz.prog 51 := ⟨Tryz.call51⟩
instance : HasBody Tryz.prog 52 := ⟨Tryz.call52⟩
instance : HasBody Tryz.prog 53 := ⟨Tryz.call53⟩
instance : HasBody Tryz.prog 54 := ⟨Tryz.call54⟩
instance : HasBody Tryz.prog 55 := ⟨Tryz.call55⟩
instance : HasBody Tryz.prog 56 := ⟨Tryz.call56⟩
instance : HasBody Tryz.prog 57 := ⟨Tryz.call57⟩
instance : HasBody Tryz.prog 58 := ⟨Tryz.call58⟩
instance : HasBody Tryz.prog 59 := ⟨Tryz.call59⟩
instance : HasBody Tryz.prog 60 := ⟨Tryz.call60⟩
instance : HasBody Tryz.prog 61 := ⟨Tryz.call61⟩
instance : HasBody Tryz.prog 62 := ⟨Tryz.call62⟩
instance : HasBody Tryz.prog 63 := ⟨Tryz.call63⟩
instance : HasBody Tryz.prog 64 := ⟨Tryz.call64⟩
instance : HasBody Tryz.prog 65 := ⟨Tryz.call65⟩
instance : HasBody Tryz.prog 66 := ⟨Tryz.call66⟩
instance : HasBody Tryz.prog 67 := ⟨Tryz.call67⟩
instance : HasBody Tryz.prog 68 := ⟨Tryz.call68⟩
instance : HasBody Tryz.prog 69 := ⟨Tryz.call69⟩
instance : HasBody Tryz.prog 70 := ⟨Tryz.call70⟩
instance : HasBody Tryz.prog 71 := ⟨Tryz.call71⟩
instance : HasBody Tryz.prog 72 := ⟨Tryz.call72⟩
instance : HasBody Tryz.prog 73 := ⟨Tryz.call73⟩
instance : HasBody Tryz.prog 74 := ⟨Tryz.call74⟩
instance : HasBody Tryz.prog 75 := ⟨Tryz.call75⟩
instance : HasBody Tryz.prog 76 := ⟨Tryz.call76⟩
instance : HasBody Tryz.prog 77 := ⟨Tryz.call77⟩
instance : HasBody Tryz.prog 78 := ⟨Tryz.call78⟩
instance : HasBody Tryz.prog 79 := ⟨Tryz.call79⟩
instance : HasBody Tryz.prog 80 := ⟨Tryz.call80⟩
instance : HasBody Tryz.prog 81 := ⟨Tryz.call81⟩
instance : HasBody Tryz.prog 82 := ⟨Tryz.call82⟩
instance : HasBody Tryz.prog 83 := ⟨Tryz.call83⟩
instance : HasBody Tryz.prog 84 := ⟨Tryz.call84⟩
instance : HasBody Tryz.prog 85 := ⟨Tryz.call85⟩
instance : HasBody Tryz.prog 86 := ⟨Tryz.call86⟩
instance : HasBody Tryz.prog 87 := ⟨Tryz.call87⟩
instance : HasBody Tryz.prog 88 := ⟨Tryz.call88⟩
instance : HasBody Tryz.prog 89 := ⟨Tryz.call89⟩
instance : HasBody Tryz.prog 90 := ⟨Tryz.call90⟩
instance : HasBody Tryz.prog 91 := ⟨Tryz.call91⟩
instance : HasBody Tryz.prog 92 := ⟨Tryz.call92⟩
instance : HasBody Tryz.prog 93 := ⟨Tryz.call93⟩
instance : HasBody Tryz.prog 94 := ⟨Tryz.call94⟩
instance : HasBody Tryz.prog 95 := ⟨Tryz.call95⟩
instance : HasBody Tryz.prog 96 := ⟨Tryz.call96⟩
instance : HasBody Tryz.prog 97 := ⟨Tryz.call97⟩
instance : HasBody Tryz.prog 98 := ⟨Tryz.call98⟩
instance : HasBody Tryz.prog 99 := ⟨Tryz.call99⟩
instance : HasBody Tryz.prog 100 := ⟨Tryz.call100⟩
instance : HasBody Tryz.prog 101 := ⟨Tryz.call101⟩
instance : HasBody Tryz.prog 102 := ⟨Tryz.call102⟩
instance : HasBody Tryz.prog 103 := ⟨Tryz.call103⟩
instance : HasBody Tryz.prog 104 := ⟨Tryz.call104⟩
instance : HasBody Tryz.prog 105 := ⟨Tryz.call105⟩
instance : HasBody Tryz.prog 106 := ⟨Tryz.call106⟩
instance : HasBody Tryz.prog 107 := ⟨Tryz.call107⟩
instance : HasBody Tryz.prog 108 := ⟨Tryz.call108⟩
instance : HasBody Tryz.prog 109 := ⟨Tryz.call109⟩
instance : HasBody Tryz.prog 110 := ⟨Tryz.call110⟩
instance : HasBody Tryz.prog 111 := ⟨Tryz.call111⟩
instance : HasBody Tryz.prog 112 := ⟨Tryz.call112⟩
instance : HasBody Tryz.prog 113 := ⟨Tryz.call113⟩
instance : HasBody Tryz.prog 114 := ⟨Tryz.call114⟩
instance : HasBody Tryz.prog 115 := ⟨Tryz.call115⟩
instance : HasBody Tryz.prog 116 := ⟨Tryz.call116⟩
instance : HasBody Tryz.prog 117 := ⟨Tryz.call117⟩
instance : HasBody Tryz.prog 118 := ⟨Tryz.call118⟩
instance : HasBody Tryz.prog 119 := ⟨Tryz.call119⟩
instance : HasBody Tryz.prog 120 := ⟨Tryz.call120⟩
instance : HasBody Tryz.prog 121 := ⟨Tryz.call121⟩
instance : HasBody Tryz.prog 122 := ⟨Tryz.call122⟩
instance : HasBody Tryz.prog 123 := ⟨Tryz.call123⟩
instance : HasBody Tryz.prog 124 := ⟨Tryz.call124⟩
instance : HasBody Tryz.prog 125 := ⟨Tryz.call125⟩
instance : HasBody Tryz.prog 126 := ⟨Tryz.call126⟩
instance : HasBody Tryz.prog 127 := ⟨Tryz.call127⟩
instance : HasBody Tryz.prog 128 := ⟨Tryz.call128⟩
end Go.Proofs.YtomhcibbalhgkaaGreat
