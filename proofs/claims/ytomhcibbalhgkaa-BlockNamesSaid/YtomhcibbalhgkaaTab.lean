/- The types and functions of this translation, as instances for the calculus. Written by program. -/
import Derived.Test.YtomhcibbalhgkaaChecked
import Derived.Test.YtomhcibbalhgkaaJf
namespace Go.Proofs.Ytomhcibbalhgkaa
set_option maxRecDepth 100000
instance : Mixed Try.prog := ⟨by kernel_rfl⟩
instance : TInt Try.prog 3 .i64 := ⟨Try.underlying3⟩
instance : TInfo Try.prog 3 1 8 ([.int .i64 0]) := ⟨⟨(Try.prog.info? 3).getD default, .int .i64 0, by kernel_rfl, by kernel_rfl, by kernel_rfl, by kernel_rfl, by kernel_rfl, by kernel_rfl, by decide⟩⟩
instance : TCell Try.prog 3 := ⟨fun w => ⟨by kernel_rfl, by kernel_rfl⟩⟩
instance : TBool Try.prog 4 := ⟨Try.underlying4⟩
instance : TInfo Try.prog 4 1 1 ([.bool false]) := ⟨⟨(Try.prog.info? 4).getD default, .bool false, by kernel_rfl, by kernel_rfl, by kernel_rfl, by kernel_rfl, by kernel_rfl, by kernel_rfl, by decide⟩⟩
instance : TCell Try.prog 4 := ⟨fun w => ⟨by kernel_rfl, by kernel_rfl⟩⟩
instance : TInt Try.prog 5 .u8 := ⟨Try.underlying5⟩
instance : TInfo Try.prog 5 1 1 ([.int .u8 0]) := ⟨⟨(Try.prog.info? 5).getD default, .int .u8 0, by kernel_rfl, by kernel_rfl, by kernel_rfl, by kernel_rfl, by kernel_rfl, by kernel_rfl, by decide⟩⟩
instance : TCell Try.prog 5 := ⟨fun w => ⟨by kernel_rfl, by kernel_rfl⟩⟩
instance : TStr Try.prog 9 := ⟨Try.underlying9⟩
instance : TInfo Try.prog 9 1 16 ([.string ⟨#[]⟩]) := ⟨⟨(Try.prog.info? 9).getD default, .string ⟨#[]⟩, by kernel_rfl, by kernel_rfl, by kernel_rfl, by kernel_rfl, by kernel_rfl, by kernel_rfl, by decide⟩⟩
instance : TCell Try.prog 9 := ⟨fun w => ⟨by kernel_rfl, by kernel_rfl⟩⟩
instance : TSlice Try.prog 22 41 := ⟨Try.underlying22⟩
instance : TInfo Try.prog 22 1 24 ([.slice none 0 0]) := ⟨⟨(Try.prog.info? 22).getD default, .slice none 0 0, by kernel_rfl, by kernel_rfl, by kernel_rfl, by kernel_rfl, by kernel_rfl, by kernel_rfl, by decide⟩⟩
instance : TCell Try.prog 22 := ⟨fun w => ⟨by kernel_rfl, by kernel_rfl⟩⟩
instance : TInfo Try.prog 24 3 48 ([.int .i64 0, .string ⟨#[]⟩, .slice none 0 0]) := ⟨⟨(Try.prog.info? 24).getD default, .agg ([.int .i64 0, .string ⟨#[]⟩, .slice none 0 0]).toArray, by kernel_rfl, by kernel_rfl, by kernel_rfl, by kernel_rfl, by kernel_rfl, by kernel_rfl, by decide⟩⟩
instance : TAgg Try.prog 24 3 := ⟨fun w => ⟨by kernel_rfl, by kernel_rfl⟩⟩
instance : TField Try.prog 24 0 0 := ⟨fun w => ⟨(fsOf (Try.prog.underlying 24)), (fsOf (Try.prog.underlying 24)).getD 0 default, by kernel_rfl, by kernel_rfl, by kernel_rfl, by kernel_rfl, fun a => by kernel_rfl⟩⟩
instance : TField Try.prog 24 1 1 := ⟨fun w => ⟨(fsOf (Try.prog.underlying 24)), (fsOf (Try.prog.underlying 24)).getD 1 default, by kernel_rfl, by kernel_rfl, by kernel_rfl, by kernel_rfl, fun a => by kernel_rfl⟩⟩
instance : TField Try.prog 24 2 2 := ⟨fun w => ⟨(fsOf (Try.prog.underlying 24)), (fsOf (Try.prog.underlying 24)).getD 2 default, by kernel_rfl, by kernel_rfl, by kernel_rfl, by kernel_rfl, fun a => by kernel_rfl⟩⟩
instance : TPlaces Try.prog 24 [(0, 1), (1, 1), (2, 1)] ([.int .i64 0, .string ⟨#[]⟩, .slice none 0 0]) := ⟨fun w => ⟨by kernel_rfl, (fsOf (Try.prog.underlying 24)), by kernel_rfl, by kernel_rfl⟩⟩
instance : TInt Try.prog 27 .i64 := ⟨Try.underlying27⟩
instance : TInfo Try.prog 27 1 8 ([.int .i64 0]) := ⟨⟨(Try.prog.info? 27).getD default, .int .i64 0, by kernel_rfl, by kernel_rfl, by kernel_rfl, by kernel_rfl, by kernel_rfl, by kernel_rfl, by decide⟩⟩
instance : TCell Try.prog 27 := ⟨fun w => ⟨by kernel_rfl, by kernel_rfl⟩⟩
instance : TSlice Try.prog 34 45 := ⟨Try.underlying34⟩
instance : TInfo Try.prog 34 1 24 ([.slice none 0 0]) := ⟨⟨(Try.prog.info? 34).getD default, .slice none 0 0, by kernel_rfl, by kernel_rfl, by kernel_rfl, by kernel_rfl, by kernel_rfl, by kernel_rfl, by decide⟩⟩
instance : TCell Try.prog 34 := ⟨fun w => ⟨by kernel_rfl, by kernel_rfl⟩⟩
instance : TSlice Try.prog 35 75 := ⟨Try.underlying35⟩
instance : TInfo Try.prog 35 1 24 ([.slice none 0 0]) := ⟨⟨(Try.prog.info? 35).getD default, .slice none 0 0, by kernel_rfl, by kernel_rfl, by kernel_rfl, by kernel_rfl, by kernel_rfl, by kernel_rfl, by decide⟩⟩
instance : TCell Try.prog 35 := ⟨fun w => ⟨by kernel_rfl, by kernel_rfl⟩⟩
instance : TInt Try.prog 36 .u64 := ⟨Try.underlying36⟩
instance : TInfo Try.prog 36 1 8 ([.int .u64 0]) := ⟨⟨(Try.prog.info? 36).getD default, .int .u64 0, by kernel_rfl, by kernel_rfl, by kernel_rfl, by kernel_rfl, by kernel_rfl, by kernel_rfl, by decide⟩⟩
instance : TCell Try.prog 36 := ⟨fun w => ⟨by kernel_rfl, by kernel_rfl⟩⟩
instance : TSlice Try.prog 37 113 := ⟨Try.underlying37⟩
instance : TInfo Try.prog 37 1 24 ([.slice none 0 0]) := ⟨⟨(Try.prog.info? 37).getD default, .slice none 0 0, by kernel_rfl, by kernel_rfl, by kernel_rfl, by kernel_rfl, by kernel_rfl, by kernel_rfl, by decide⟩⟩
instance : TCell Try.prog 37 := ⟨fun w => ⟨by kernel_rfl, by kernel_rfl⟩⟩
instance : TInfo Try.prog 39 4 64 ([.int .u64 0, .string ⟨#[]⟩, .string ⟨#[]⟩, .slice none 0 0]) := ⟨⟨(Try.prog.info? 39).getD default, .agg ([.int .u64 0, .string ⟨#[]⟩, .string ⟨#[]⟩, .slice none 0 0]).toArray, by kernel_rfl, by kernel_rfl, by kernel_rfl, by kernel_rfl, by kernel_rfl, by kernel_rfl, by decide⟩⟩
instance : TAgg Try.prog 39 4 := ⟨fun w => ⟨by kernel_rfl, by kernel_rfl⟩⟩
instance : TField Try.prog 39 0 0 := ⟨fun w => ⟨(fsOf (Try.prog.underlying 39)), (fsOf (Try.prog.underlying 39)).getD 0 default, by kernel_rfl, by kernel_rfl, by kernel_rfl, by kernel_rfl, fun a => by kernel_rfl⟩⟩
instance : TField Try.prog 39 1 1 := ⟨fun w => ⟨(fsOf (Try.prog.underlying 39)), (fsOf (Try.prog.underlying 39)).getD 1 default, by kernel_rfl, by kernel_rfl, by kernel_rfl, by kernel_rfl, fun a => by kernel_rfl⟩⟩
instance : TField Try.prog 39 2 2 := ⟨fun w => ⟨(fsOf (Try.prog.underlying 39)), (fsOf (Try.prog.underlying 39)).getD 2 default, by kernel_rfl, by kernel_rfl, by kernel_rfl, by kernel_rfl, fun a => by kernel_rfl⟩⟩
instance : TField Try.prog 39 3 3 := ⟨fun w => ⟨(fsOf (Try.prog.underlying 39)), (fsOf (Try.prog.underlying 39)).getD 3 default, by kernel_rfl, by kernel_rfl, by kernel_rfl, by kernel_rfl, fun a => by kernel_rfl⟩⟩
instance : TPlaces Try.prog 39 [(0, 1), (1, 1), (2, 1), (3, 1)] ([.int .u64 0, .string ⟨#[]⟩, .string ⟨#[]⟩, .slice none 0 0]) := ⟨fun w => ⟨by kernel_rfl, (fsOf (Try.prog.underlying 39)), by kernel_rfl, by kernel_rfl⟩⟩
instance : TInfo Try.prog 41 6 112 ([.slice none 0 0, .slice none 0 0, .int .u64 0, .string ⟨#[]⟩, .string ⟨#[]⟩, .slice none 0 0]) := ⟨⟨(Try.prog.info? 41).getD default, .agg ([.slice none 0 0, .slice none 0 0, .int .u64 0, .string ⟨#[]⟩, .string ⟨#[]⟩, .slice none 0 0]).toArray, by kernel_rfl, by kernel_rfl, by kernel_rfl, by kernel_rfl, by kernel_rfl, by kernel_rfl, by decide⟩⟩
instance : TAgg Try.prog 41 6 := ⟨fun w => ⟨by kernel_rfl, by kernel_rfl⟩⟩
instance : TField Try.prog 41 0 0 := ⟨fun w => ⟨(fsOf (Try.prog.underlying 41)), (fsOf (Try.prog.underlying 41)).getD 0 default, by kernel_rfl, by kernel_rfl, by kernel_rfl, by kernel_rfl, fun a => by kernel_rfl⟩⟩
instance : TField Try.prog 41 1 1 := ⟨fun w => ⟨(fsOf (Try.prog.underlying 41)), (fsOf (Try.prog.underlying 41)).getD 1 default, by kernel_rfl, by kernel_rfl, by kernel_rfl, by kernel_rfl, fun a => by kernel_rfl⟩⟩
instance : TFieldAgg Try.prog 41 2 2 4 := ⟨fun w => ⟨(fsOf (Try.prog.underlying 41)), (fsOf (Try.prog.underlying 41)).getD 2 default, by kernel_rfl, by kernel_rfl, by kernel_rfl, by kernel_rfl, by kernel_rfl, fun a => by kernel_rfl⟩⟩
instance : TPlaces Try.prog 41 [(0, 1), (1, 1), (2, 4)] ([.slice none 0 0, .slice none 0 0, .int .u64 0, .string ⟨#[]⟩, .string ⟨#[]⟩, .slice none 0 0]) := ⟨fun w => ⟨by kernel_rfl, (fsOf (Try.prog.underlying 41)), by kernel_rfl, by kernel_rfl⟩⟩
instance : TInfo Try.prog 43 2 24 ([.string ⟨#[]⟩, .int .i64 0]) := ⟨⟨(Try.prog.info? 43).getD default, .agg ([.string ⟨#[]⟩, .int .i64 0]).toArray, by kernel_rfl, by kernel_rfl, by kernel_rfl, by kernel_rfl, by kernel_rfl, by kernel_rfl, by decide⟩⟩
instance : TAgg Try.prog 43 2 := ⟨fun w => ⟨by kernel_rfl, by kernel_rfl⟩⟩
instance : TField Try.prog 43 0 0 := ⟨fun w => ⟨(fsOf (Try.prog.underlying 43)), (fsOf (Try.prog.underlying 43)).getD 0 default, by kernel_rfl, by kernel_rfl, by kernel_rfl, by kernel_rfl, fun a => by kernel_rfl⟩⟩
instance : TField Try.prog 43 1 1 := ⟨fun w => ⟨(fsOf (Try.prog.underlying 43)), (fsOf (Try.prog.underlying 43)).getD 1 default, by kernel_rfl, by kernel_rfl, by kernel_rfl, by kernel_rfl, fun a => by kernel_rfl⟩⟩
instance : TPlaces Try.prog 43 [(0, 1), (1, 1)] ([.string ⟨#[]⟩, .int .i64 0]) := ⟨fun w => ⟨by kernel_rfl, (fsOf (Try.prog.underlying 43)), by kernel_rfl, by kernel_rfl⟩⟩
instance : TInfo Try.prog 45 4 48 ([.string ⟨#[]⟩, .int .i64 0, .int .i64 0, .string ⟨#[]⟩]) := ⟨⟨(Try.prog.info? 45).getD default, .agg ([.string ⟨#[]⟩, .int .i64 0, .int .i64 0, .string ⟨#[]⟩]).toArray, by kernel_rfl, by kernel_rfl, by kernel_rfl, by kernel_rfl, by kernel_rfl, by kernel_rfl, by decide⟩⟩
instance : TAgg Try.prog 45 4 := ⟨fun w => ⟨by kernel_rfl, by kernel_rfl⟩⟩
instance : TFieldAgg Try.prog 45 0 0 2 := ⟨fun w => ⟨(fsOf (Try.prog.underlying 45)), (fsOf (Try.prog.underlying 45)).getD 0 default, by kernel_rfl, by kernel_rfl, by kernel_rfl, by kernel_rfl, by kernel_rfl, fun a => by kernel_rfl⟩⟩
instance : TField Try.prog 45 1 2 := ⟨fun w => ⟨(fsOf (Try.prog.underlying 45)), (fsOf (Try.prog.underlying 45)).getD 1 default, by kernel_rfl, by kernel_rfl, by kernel_rfl, by kernel_rfl, fun a => by kernel_rfl⟩⟩
instance : TField Try.prog 45 2 3 := ⟨fun w => ⟨(fsOf (Try.prog.underlying 45)), (fsOf (Try.prog.underlying 45)).getD 2 default, by kernel_rfl, by kernel_rfl, by kernel_rfl, by kernel_rfl, fun a => by kernel_rfl⟩⟩
instance : TPlaces Try.prog 45 [(0, 2), (2, 1), (3, 1)] ([.string ⟨#[]⟩, .int .i64 0, .int .i64 0, .string ⟨#[]⟩]) := ⟨fun w => ⟨by kernel_rfl, (fsOf (Try.prog.underlying 45)), by kernel_rfl, by kernel_rfl⟩⟩
instance : TInt Try.prog 46 .u16 := ⟨Try.underlying46⟩
instance : TInfo Try.prog 46 1 2 ([.int .u16 0]) := ⟨⟨(Try.prog.info? 46).getD default, .int .u16 0, by kernel_rfl, by kernel_rfl, by kernel_rfl, by kernel_rfl, by kernel_rfl, by kernel_rfl, by decide⟩⟩
instance : TCell Try.prog 46 := ⟨fun w => ⟨by kernel_rfl, by kernel_rfl⟩⟩
instance : TSlice Try.prog 47 5 := ⟨Try.underlying47⟩
instance : TInfo Try.prog 47 1 24 ([.slice none 0 0]) := ⟨⟨(Try.prog.info? 47).getD default, .slice none 0 0, by kernel_rfl, by kernel_rfl, by kernel_rfl, by kernel_rfl, by kernel_rfl, by kernel_rfl, by decide⟩⟩
instance : TCell Try.prog 47 := ⟨fun w => ⟨by kernel_rfl, by kernel_rfl⟩⟩
instance : TInfo Try.prog 51 2 24 ([.string ⟨#[]⟩, .int .i64 0]) := ⟨⟨(Try.prog.info? 51).getD default, .agg ([.string ⟨#[]⟩, .int .i64 0]).toArray, by kernel_rfl, by kernel_rfl, by kernel_rfl, by kernel_rfl, by kernel_rfl, by kernel_rfl, by decide⟩⟩
instance : TAgg Try.prog 51 2 := ⟨fun w => ⟨by kernel_rfl, by kernel_rfl⟩⟩
instance : TField Try.prog 51 0 0 := ⟨fun w => ⟨(fsOf (Try.prog.underlying 51)), (fsOf (Try.prog.underlying 51)).getD 0 default, by kernel_rfl, by kernel_rfl, by kernel_rfl, by kernel_rfl, fun a => by kernel_rfl⟩⟩
instance : TField Try.prog 51 1 1 := ⟨fun w => ⟨(fsOf (Try.prog.underlying 51)), (fsOf (Try.prog.underlying 51)).getD 1 default, by kernel_rfl, by kernel_rfl, by kernel_rfl, by kernel_rfl, fun a => by kernel_rfl⟩⟩
instance : TPlaces Try.prog 51 [(0, 1), (1, 1)] ([.string ⟨#[]⟩, .int .i64 0]) := ⟨fun w => ⟨by kernel_rfl, (fsOf (Try.prog.underlying 51)), by kernel_rfl, by kernel_rfl⟩⟩
instance : TInfo Try.prog 56 1 8 ([.nilFunc]) := ⟨⟨(Try.prog.info? 56).getD default, .nilFunc, by kernel_rfl, by kernel_rfl, by kernel_rfl, by kernel_rfl, by kernel_rfl, by kernel_rfl, by decide⟩⟩
instance : TCell Try.prog 56 := ⟨fun w => ⟨by kernel_rfl, by kernel_rfl⟩⟩
instance : TPtr Try.prog 58 89 := ⟨Try.underlying58⟩
instance : TInfo Try.prog 58 1 8 ([.pointer none]) := ⟨⟨(Try.prog.info? 58).getD default, .pointer none, by kernel_rfl, by kernel_rfl, by kernel_rfl, by kernel_rfl, by kernel_rfl, by kernel_rfl, by decide⟩⟩
instance : TCell Try.prog 58 := ⟨fun w => ⟨by kernel_rfl, by kernel_rfl⟩⟩
instance : TSlice Try.prog 65 9 := ⟨Try.underlying65⟩
instance : TInfo Try.prog 65 1 24 ([.slice none 0 0]) := ⟨⟨(Try.prog.info? 65).getD default, .slice none 0 0, by kernel_rfl, by kernel_rfl, by kernel_rfl, by kernel_rfl, by kernel_rfl, by kernel_rfl, by decide⟩⟩
instance : TCell Try.prog 65 := ⟨fun w => ⟨by kernel_rfl, by kernel_rfl⟩⟩
instance : TInfo Try.prog 70 1 8 ([.nilFunc]) := ⟨⟨(Try.prog.info? 70).getD default, .nilFunc, by kernel_rfl, by kernel_rfl, by kernel_rfl, by kernel_rfl, by kernel_rfl, by kernel_rfl, by decide⟩⟩
instance : TCell Try.prog 70 := ⟨fun w => ⟨by kernel_rfl, by kernel_rfl⟩⟩
instance : TInfo Try.prog 73 1 8 ([.nilFunc]) := ⟨⟨(Try.prog.info? 73).getD default, .nilFunc, by kernel_rfl, by kernel_rfl, by kernel_rfl, by kernel_rfl, by kernel_rfl, by kernel_rfl, by decide⟩⟩
instance : TCell Try.prog 73 := ⟨fun w => ⟨by kernel_rfl, by kernel_rfl⟩⟩
instance : TInfo Try.prog 75 9 104 ([.int .i64 0, .int .u64 0, .string ⟨#[]⟩, .string ⟨#[]⟩, .int .i64 0, .string ⟨#[]⟩, .int .u64 0, .int .i64 0, .string ⟨#[]⟩]) := ⟨⟨(Try.prog.info? 75).getD default, .agg ([.int .i64 0, .int .u64 0, .string ⟨#[]⟩, .string ⟨#[]⟩, .int .i64 0, .string ⟨#[]⟩, .int .u64 0, .int .i64 0, .string ⟨#[]⟩]).toArray, by kernel_rfl, by kernel_rfl, by kernel_rfl, by kernel_rfl, by kernel_rfl, by kernel_rfl, by decide⟩⟩
instance : TAgg Try.prog 75 9 := ⟨fun w => ⟨by kernel_rfl, by kernel_rfl⟩⟩
instance : TField Try.prog 75 0 0 := ⟨fun w => ⟨(fsOf (Try.prog.underlying 75)), (fsOf (Try.prog.underlying 75)).getD 0 default, by kernel_rfl, by kernel_rfl, by kernel_rfl, by kernel_rfl, fun a => by kernel_rfl⟩⟩
instance : TField Try.prog 75 1 1 := ⟨fun w => ⟨(fsOf (Try.prog.underlying 75)), (fsOf (Try.prog.underlying 75)).getD 1 default, by kernel_rfl, by kernel_rfl, by kernel_rfl, by kernel_rfl, fun a => by kernel_rfl⟩⟩
instance : TField Try.prog 75 2 2 := ⟨fun w => ⟨(fsOf (Try.prog.underlying 75)), (fsOf (Try.prog.underlying 75)).getD 2 default, by kernel_rfl, by kernel_rfl, by kernel_rfl, by kernel_rfl, fun a => by kernel_rfl⟩⟩
instance : TField Try.prog 75 3 3 := ⟨fun w => ⟨(fsOf (Try.prog.underlying 75)), (fsOf (Try.prog.underlying 75)).getD 3 default, by kernel_rfl, by kernel_rfl, by kernel_rfl, by kernel_rfl, fun a => by kernel_rfl⟩⟩
instance : TField Try.prog 75 4 4 := ⟨fun w => ⟨(fsOf (Try.prog.underlying 75)), (fsOf (Try.prog.underlying 75)).getD 4 default, by kernel_rfl, by kernel_rfl, by kernel_rfl, by kernel_rfl, fun a => by kernel_rfl⟩⟩
instance : TField Try.prog 75 5 5 := ⟨fun w => ⟨(fsOf (Try.prog.underlying 75)), (fsOf (Try.prog.underlying 75)).getD 5 default, by kernel_rfl, by kernel_rfl, by kernel_rfl, by kernel_rfl, fun a => by kernel_rfl⟩⟩
instance : TField Try.prog 75 6 6 := ⟨fun w => ⟨(fsOf (Try.prog.underlying 75)), (fsOf (Try.prog.underlying 75)).getD 6 default, by kernel_rfl, by kernel_rfl, by kernel_rfl, by kernel_rfl, fun a => by kernel_rfl⟩⟩
instance : TField Try.prog 75 7 7 := ⟨fun w => ⟨(fsOf (Try.prog.underlying 75)), (fsOf (Try.prog.underlying 75)).getD 7 default, by kernel_rfl, by kernel_rfl, by kernel_rfl, by kernel_rfl, fun a => by kernel_rfl⟩⟩
instance : TField Try.prog 75 8 8 := ⟨fun w => ⟨(fsOf (Try.prog.underlying 75)), (fsOf (Try.prog.underlying 75)).getD 8 default, by kernel_rfl, by kernel_rfl, by kernel_rfl, by kernel_rfl, fun a => by kernel_rfl⟩⟩
instance : TPlaces Try.prog 75 [(0, 1), (1, 1), (2, 1), (3, 1), (4, 1), (5, 1), (6, 1), (7, 1), (8, 1)] ([.int .i64 0, .int .u64 0, .string ⟨#[]⟩, .string ⟨#[]⟩, .int .i64 0, .string ⟨#[]⟩, .int .u64 0, .int .i64 0, .string ⟨#[]⟩]) := ⟨fun w => ⟨by kernel_rfl, (fsOf (Try.prog.underlying 75)), by kernel_rfl, by kernel_rfl⟩⟩
instance : TPtr Try.prog 83 51 := ⟨Try.underlying83⟩
instance : TInfo Try.prog 83 1 8 ([.pointer none]) := ⟨⟨(Try.prog.info? 83).getD default, .pointer none, by kernel_rfl, by kernel_rfl, by kernel_rfl, by kernel_rfl, by kernel_rfl, by kernel_rfl, by decide⟩⟩
instance : TCell Try.prog 83 := ⟨fun w => ⟨by kernel_rfl, by kernel_rfl⟩⟩
instance : TInt Try.prog 87 .u64 := ⟨Try.underlying87⟩
instance : TInfo Try.prog 87 1 8 ([.int .u64 0]) := ⟨⟨(Try.prog.info? 87).getD default, .int .u64 0, by kernel_rfl, by kernel_rfl, by kernel_rfl, by kernel_rfl, by kernel_rfl, by kernel_rfl, by decide⟩⟩
instance : TCell Try.prog 87 := ⟨fun w => ⟨by kernel_rfl, by kernel_rfl⟩⟩
instance : TInfo Try.prog 89 2 24 ([.string ⟨#[]⟩, .int .i64 0]) := ⟨⟨(Try.prog.info? 89).getD default, .agg ([.string ⟨#[]⟩, .int .i64 0]).toArray, by kernel_rfl, by kernel_rfl, by kernel_rfl, by kernel_rfl, by kernel_rfl, by kernel_rfl, by decide⟩⟩
instance : TAgg Try.prog 89 2 := ⟨fun w => ⟨by kernel_rfl, by kernel_rfl⟩⟩
instance : TField Try.prog 89 0 0 := ⟨fun w => ⟨(fsOf (Try.prog.underlying 89)), (fsOf (Try.prog.underlying 89)).getD 0 default, by kernel_rfl, by kernel_rfl, by kernel_rfl, by kernel_rfl, fun a => by kernel_rfl⟩⟩
instance : TField Try.prog 89 1 1 := ⟨fun w => ⟨(fsOf (Try.prog.underlying 89)), (fsOf (Try.prog.underlying 89)).getD 1 default, by kernel_rfl, by kernel_rfl, by kernel_rfl, by kernel_rfl, fun a => by kernel_rfl⟩⟩
instance : TPlaces Try.prog 89 [(0, 1), (1, 1)] ([.string ⟨#[]⟩, .int .i64 0]) := ⟨fun w => ⟨by kernel_rfl, (fsOf (Try.prog.underlying 89)), by kernel_rfl, by kernel_rfl⟩⟩
instance : TInfo Try.prog 91 1 8 ([.nilFunc]) := ⟨⟨(Try.prog.info? 91).getD default, .nilFunc, by kernel_rfl, by kernel_rfl, by kernel_rfl, by kernel_rfl, by kernel_rfl, by kernel_rfl, by decide⟩⟩
instance : TCell Try.prog 91 := ⟨fun w => ⟨by kernel_rfl, by kernel_rfl⟩⟩
instance : TInfo Try.prog 94 1 8 ([.nilFunc]) := ⟨⟨(Try.prog.info? 94).getD default, .nilFunc, by kernel_rfl, by kernel_rfl, by kernel_rfl, by kernel_rfl, by kernel_rfl, by kernel_rfl, by decide⟩⟩
instance : TCell Try.prog 94 := ⟨fun w => ⟨by kernel_rfl, by kernel_rfl⟩⟩
instance : TInfo Try.prog 96 1 8 ([.nilFunc]) := ⟨⟨(Try.prog.info? 96).getD default, .nilFunc, by kernel_rfl, by kernel_rfl, by kernel_rfl, by kernel_rfl, by kernel_rfl, by kernel_rfl, by decide⟩⟩
instance : TCell Try.prog 96 := ⟨fun w => ⟨by kernel_rfl, by kernel_rfl⟩⟩
instance : TMap Try.prog 99 43 4 := ⟨Try.underlying99⟩
instance : TInfo Try.prog 99 1 8 ([.map none]) := ⟨⟨(Try.prog.info? 99).getD default, .map none, by kernel_rfl, by kernel_rfl, by kernel_rfl, by kernel_rfl, by kernel_rfl, by kernel_rfl, by decide⟩⟩
instance : TCell Try.prog 99 := ⟨fun w => ⟨by kernel_rfl, by kernel_rfl⟩⟩
instance : TInfo Try.prog 100 1 8 ([.nilFunc]) := ⟨⟨(Try.prog.info? 100).getD default, .nilFunc, by kernel_rfl, by kernel_rfl, by kernel_rfl, by kernel_rfl, by kernel_rfl, by kernel_rfl, by decide⟩⟩
instance : TCell Try.prog 100 := ⟨fun w => ⟨by kernel_rfl, by kernel_rfl⟩⟩
instance : TInfo Try.prog 109 1 8 ([.nilFunc]) := ⟨⟨(Try.prog.info? 109).getD default, .nilFunc, by kernel_rfl, by kernel_rfl, by kernel_rfl, by kernel_rfl, by kernel_rfl, by kernel_rfl, by decide⟩⟩
instance : TCell Try.prog 109 := ⟨fun w => ⟨by kernel_rfl, by kernel_rfl⟩⟩
instance : TInfo Try.prog 111 8 88 ([.string ⟨#[]⟩, .int .u64 0, .int .u64 0, .int .u64 0, .int .u64 0, .string ⟨#[]⟩, .int .u64 0, .string ⟨#[]⟩]) := ⟨⟨(Try.prog.info? 111).getD default, .agg ([.string ⟨#[]⟩, .int .u64 0, .int .u64 0, .int .u64 0, .int .u64 0, .string ⟨#[]⟩, .int .u64 0, .string ⟨#[]⟩]).toArray, by kernel_rfl, by kernel_rfl, by kernel_rfl, by kernel_rfl, by kernel_rfl, by kernel_rfl, by decide⟩⟩
instance : TAgg Try.prog 111 8 := ⟨fun w => ⟨by kernel_rfl, by kernel_rfl⟩⟩
instance : TField Try.prog 111 0 0 := ⟨fun w => ⟨(fsOf (Try.prog.underlying 111)), (fsOf (Try.prog.underlying 111)).getD 0 default, by kernel_rfl, by kernel_rfl, by kernel_rfl, by kernel_rfl, fun a => by kernel_rfl⟩⟩
instance : TField Try.prog 111 1 1 := ⟨fun w => ⟨(fsOf (Try.prog.underlying 111)), (fsOf (Try.prog.underlying 111)).getD 1 default, by kernel_rfl, by kernel_rfl, by kernel_rfl, by kernel_rfl, fun a => by kernel_rfl⟩⟩
instance : TField Try.prog 111 2 2 := ⟨fun w => ⟨(fsOf (Try.prog.underlying 111)), (fsOf (Try.prog.underlying 111)).getD 2 default, by kernel_rfl, by kernel_rfl, by kernel_rfl, by kernel_rfl, fun a => by kernel_rfl⟩⟩
instance : TField Try.prog 111 3 3 := ⟨fun w => ⟨(fsOf (Try.prog.underlying 111)), (fsOf (Try.prog.underlying 111)).getD 3 default, by kernel_rfl, by kernel_rfl, by kernel_rfl, by kernel_rfl, fun a => by kernel_rfl⟩⟩
instance : TField Try.prog 111 4 4 := ⟨fun w => ⟨(fsOf (Try.prog.underlying 111)), (fsOf (Try.prog.underlying 111)).getD 4 default, by kernel_rfl, by kernel_rfl, by kernel_rfl, by kernel_rfl, fun a => by kernel_rfl⟩⟩
instance : TField Try.prog 111 5 5 := ⟨fun w => ⟨(fsOf (Try.prog.underlying 111)), (fsOf (Try.prog.underlying 111)).getD 5 default, by kernel_rfl, by kernel_rfl, by kernel_rfl, by kernel_rfl, fun a => by kernel_rfl⟩⟩
instance : TField Try.prog 111 6 6 := ⟨fun w => ⟨(fsOf (Try.prog.underlying 111)), (fsOf (Try.prog.underlying 111)).getD 6 default, by kernel_rfl, by kernel_rfl, by kernel_rfl, by kernel_rfl, fun a => by kernel_rfl⟩⟩
instance : TField Try.prog 111 7 7 := ⟨fun w => ⟨(fsOf (Try.prog.underlying 111)), (fsOf (Try.prog.underlying 111)).getD 7 default, by kernel_rfl, by kernel_rfl, by kernel_rfl, by kernel_rfl, fun a => by kernel_rfl⟩⟩
instance : TPlaces Try.prog 111 [(0, 1), (1, 1), (2, 1), (3, 1), (4, 1), (5, 1), (6, 1), (7, 1)] ([.string ⟨#[]⟩, .int .u64 0, .int .u64 0, .int .u64 0, .int .u64 0, .string ⟨#[]⟩, .int .u64 0, .string ⟨#[]⟩]) := ⟨fun w => ⟨by kernel_rfl, (fsOf (Try.prog.underlying 111)), by kernel_rfl, by kernel_rfl⟩⟩
instance : TInfo Try.prog 113 10 112 ([.string ⟨#[]⟩, .int .u64 0, .int .u64 0, .int .u64 0, .int .u64 0, .string ⟨#[]⟩, .int .u64 0, .string ⟨#[]⟩, .string ⟨#[]⟩, .int .u64 0]) := ⟨⟨(Try.prog.info? 113).getD default, .agg ([.string ⟨#[]⟩, .int .u64 0, .int .u64 0, .int .u64 0, .int .u64 0, .string ⟨#[]⟩, .int .u64 0, .string ⟨#[]⟩, .string ⟨#[]⟩, .int .u64 0]).toArray, by kernel_rfl, by kernel_rfl, by kernel_rfl, by kernel_rfl, by kernel_rfl, by kernel_rfl, by decide⟩⟩
instance : TAgg Try.prog 113 10 := ⟨fun w => ⟨by kernel_rfl, by kernel_rfl⟩⟩
instance : TFieldAgg Try.prog 113 0 0 8 := ⟨fun w => ⟨(fsOf (Try.prog.underlying 113)), (fsOf (Try.prog.underlying 113)).getD 0 default, by kernel_rfl, by kernel_rfl, by kernel_rfl, by kernel_rfl, by kernel_rfl, fun a => by kernel_rfl⟩⟩
instance : TField Try.prog 113 1 8 := ⟨fun w => ⟨(fsOf (Try.prog.underlying 113)), (fsOf (Try.prog.underlying 113)).getD 1 default, by kernel_rfl, by kernel_rfl, by kernel_rfl, by kernel_rfl, fun a => by kernel_rfl⟩⟩
instance : TField Try.prog 113 2 9 := ⟨fun w => ⟨(fsOf (Try.prog.underlying 113)), (fsOf (Try.prog.underlying 113)).getD 2 default, by kernel_rfl, by kernel_rfl, by kernel_rfl, by kernel_rfl, fun a => by kernel_rfl⟩⟩
instance : TPlaces Try.prog 113 [(0, 8), (8, 1), (9, 1)] ([.string ⟨#[]⟩, .int .u64 0, .int .u64 0, .int .u64 0, .int .u64 0, .string ⟨#[]⟩, .int .u64 0, .string ⟨#[]⟩, .string ⟨#[]⟩, .int .u64 0]) := ⟨fun w => ⟨by kernel_rfl, (fsOf (Try.prog.underlying 113)), by kernel_rfl, by kernel_rfl⟩⟩
instance : TSlice Try.prog 123 36 := ⟨Try.underlying123⟩
instance : TInfo Try.prog 123 1 24 ([.slice none 0 0]) := ⟨⟨(Try.prog.info? 123).getD default, .slice none 0 0, by kernel_rfl, by kernel_rfl, by kernel_rfl, by kernel_rfl, by kernel_rfl, by kernel_rfl, by decide⟩⟩
instance : TCell Try.prog 123 := ⟨fun w => ⟨by kernel_rfl, by kernel_rfl⟩⟩
instance : TPtr Try.prog 125 132 := ⟨Try.underlying125⟩
instance : TInfo Try.prog 125 1 8 ([.pointer none]) := ⟨⟨(Try.prog.info? 125).getD default, .pointer none, by kernel_rfl, by kernel_rfl, by kernel_rfl, by kernel_rfl, by kernel_rfl, by kernel_rfl, by decide⟩⟩
instance : TCell Try.prog 125 := ⟨fun w => ⟨by kernel_rfl, by kernel_rfl⟩⟩
instance : TInt Try.prog 127 .u32 := ⟨Try.underlying127⟩
instance : TInfo Try.prog 127 1 4 ([.int .u32 0]) := ⟨⟨(Try.prog.info? 127).getD default, .int .u32 0, by kernel_rfl, by kernel_rfl, by kernel_rfl, by kernel_rfl, by kernel_rfl, by kernel_rfl, by decide⟩⟩
instance : TCell Try.prog 127 := ⟨fun w => ⟨by kernel_rfl, by kernel_rfl⟩⟩
instance : TArr Try.prog 128 8 127 := ⟨Try.underlying128⟩
instance : TInfo Try.prog 128 8 32 (List.replicate 8 (.int .u32 0)) := ⟨⟨(Try.prog.info? 128).getD default, .agg (List.replicate 8 (.int .u32 0)).toArray, by kernel_rfl, by kernel_rfl, by kernel_rfl, by kernel_rfl, by kernel_rfl, by kernel_rfl, by decide⟩⟩
instance : TAgg Try.prog 128 8 := ⟨fun w => ⟨by kernel_rfl, by kernel_rfl⟩⟩
instance : TArr Try.prog 129 8 127 := ⟨Try.underlying129⟩
instance : TInfo Try.prog 129 8 32 (List.replicate 8 (.int .u32 0)) := ⟨⟨(Try.prog.info? 129).getD default, .agg (List.replicate 8 (.int .u32 0)).toArray, by kernel_rfl, by kernel_rfl, by kernel_rfl, by kernel_rfl, by kernel_rfl, by kernel_rfl, by decide⟩⟩
instance : TAgg Try.prog 129 8 := ⟨fun w => ⟨by kernel_rfl, by kernel_rfl⟩⟩
instance : TInfo Try.prog 132 10 56 ([.int .u32 0, .int .u32 0, .int .u32 0, .int .u32 0, .int .u32 0, .int .u32 0, .int .u32 0, .int .u32 0, .string ⟨#[]⟩, .int .i64 0]) := ⟨⟨(Try.prog.info? 132).getD default, .agg ([.int .u32 0, .int .u32 0, .int .u32 0, .int .u32 0, .int .u32 0, .int .u32 0, .int .u32 0, .int .u32 0, .string ⟨#[]⟩, .int .i64 0]).toArray, by kernel_rfl, by kernel_rfl, by kernel_rfl, by kernel_rfl, by kernel_rfl, by kernel_rfl, by decide⟩⟩
instance : TAgg Try.prog 132 10 := ⟨fun w => ⟨by kernel_rfl, by kernel_rfl⟩⟩
instance : TFieldAgg Try.prog 132 0 0 8 := ⟨fun w => ⟨(fsOf (Try.prog.underlying 132)), (fsOf (Try.prog.underlying 132)).getD 0 default, by kernel_rfl, by kernel_rfl, by kernel_rfl, by kernel_rfl, by kernel_rfl, fun a => by kernel_rfl⟩⟩
instance : TField Try.prog 132 1 8 := ⟨fun w => ⟨(fsOf (Try.prog.underlying 132)), (fsOf (Try.prog.underlying 132)).getD 1 default, by kernel_rfl, by kernel_rfl, by kernel_rfl, by kernel_rfl, fun a => by kernel_rfl⟩⟩
instance : TField Try.prog 132 2 9 := ⟨fun w => ⟨(fsOf (Try.prog.underlying 132)), (fsOf (Try.prog.underlying 132)).getD 2 default, by kernel_rfl, by kernel_rfl, by kernel_rfl, by kernel_rfl, fun a => by kernel_rfl⟩⟩
instance : TPlaces Try.prog 132 [(0, 8), (8, 1), (9, 1)] ([.int .u32 0, .int .u32 0, .int .u32 0, .int .u32 0, .int .u32 0, .int .u32 0, .int .u32 0, .int .u32 0, .string ⟨#[]⟩, .int .i64 0]) := ⟨fun w => ⟨by kernel_rfl, (fsOf (Try.prog.underlying 132)), by kernel_rfl, by kernel_rfl⟩⟩
instance : TPtr Try.prog 133 129 := ⟨Try.underlying133⟩
instance : TInfo Try.prog 133 1 8 ([.pointer none]) := ⟨⟨(Try.prog.info? 133).getD default, .pointer none, by kernel_rfl, by kernel_rfl, by kernel_rfl, by kernel_rfl, by kernel_rfl, by kernel_rfl, by decide⟩⟩
instance : TCell Try.prog 133 := ⟨fun w => ⟨by kernel_rfl, by kernel_rfl⟩⟩
instance : TPtr Try.prog 134 138 := ⟨Try.underlying134⟩
instance : TInfo Try.prog 134 1 8 ([.pointer none]) := ⟨⟨(Try.prog.info? 134).getD default, .pointer none, by kernel_rfl, by kernel_rfl, by kernel_rfl, by kernel_rfl, by kernel_rfl, by kernel_rfl, by decide⟩⟩
instance : TCell Try.prog 134 := ⟨fun w => ⟨by kernel_rfl, by kernel_rfl⟩⟩
instance : TArr Try.prog 138 64 127 := ⟨Try.underlying138⟩
instance : TInfo Try.prog 138 64 256 (List.replicate 64 (.int .u32 0)) := ⟨⟨(Try.prog.info? 138).getD default, .agg (List.replicate 64 (.int .u32 0)).toArray, by kernel_rfl, by kernel_rfl, by kernel_rfl, by kernel_rfl, by kernel_rfl, by kernel_rfl, by decide⟩⟩
instance : TAgg Try.prog 138 64 := ⟨fun w => ⟨by kernel_rfl, by kernel_rfl⟩⟩
instance : HasBody Try.prog 3 := ⟨Try.call3⟩
instance : HasBody Try.prog 4 := ⟨Try.call4⟩
instance : HasBody Try.prog 5 := ⟨Try.call5⟩
instance : HasBody Try.prog 6 := ⟨Try.call6⟩
instance : HasBody Try.prog 7 := ⟨Try.call7⟩
instance : HasBody Try.prog 8 := ⟨Try.call8⟩
instance : HasBody Try.prog 9 := ⟨Try.call9⟩
instance : HasBody Try.prog 10 := ⟨Try.call10⟩
instance : HasBody Try.prog 11 := ⟨Try.call11⟩
instance : HasBody Try.prog 12 := ⟨Try.call12⟩
instance : HasBody Try.prog 13 := ⟨Try.call13⟩
instance : HasBody Try.prog 14 := ⟨Try.call14⟩
instance : HasBody Try.prog 15 := ⟨Try.call15⟩
instance : HasBody Try.prog 16 := ⟨Try.call16⟩
instance : HasBody Try.prog 17 := ⟨Try.call17⟩
instance : HasBody Try.prog 18 := ⟨Try.call18⟩
instance : HasBody Try.prog 19 := ⟨Try.call19⟩
instance : HasBody Try.prog 20 := ⟨Try.call20⟩
instance : HasBody Try.prog 21 := ⟨Try.call21⟩
instance : HasBody Try.prog 22 := ⟨Try.call22⟩
instance : HasBody Try.prog 23 := ⟨Try.call23⟩
instance : HasBody Try.prog 24 := ⟨Try.call24⟩
instance : HasBody Try.prog 25 := ⟨Try.call25⟩
instance : HasBody Try.prog 26 := ⟨Try.call26⟩
instance : HasBody Try.prog 27 := ⟨Try.call27⟩
instance : HasBody Try.prog 28 := ⟨Try.call28⟩
instance : HasBody Try.prog 29 := ⟨Try.call29⟩
instance : HasBody Try.prog 30 := ⟨Try.call30⟩
instance : HasBody Try.prog 31 := ⟨Try.call31⟩
instance : HasBody Try.prog 32 := ⟨Try.call32⟩
instance : HasBody Try.prog 33 := ⟨Try.call33⟩
instance : HasBody Try.prog 34 := ⟨Try.call34⟩
instance : HasBody Try.prog 35 := ⟨Try.call35⟩
instance : HasBody Try.prog 36 := ⟨Try.call36⟩
instance : HasBody Try.prog 37 := ⟨Try.call37⟩
instance : HasBody Try.prog 38 := ⟨Try.call38⟩
instance : HasBody Try.prog 39 := ⟨Try.call39⟩
instance : HasBody Try.prog 40 := ⟨Try.call40⟩
instance : HasBody Try.prog 41 := ⟨Try.call41⟩
instance : HasBody Try.prog 42 := ⟨Try.call42⟩
instance : HasBody Try.prog 43 := ⟨Try.call43⟩
instance : HasBody Try.prog 44 := ⟨Try.call44⟩
instance : HasBody Try.prog 45 := ⟨Try.call45⟩
instance : HasBody Try.prog 46 := ⟨Try.call46⟩
instance : HasBody Try.prog 47 := ⟨Try.call47⟩
instance : HasBody Try.prog 48 := ⟨Try.call48⟩
instance : HasBody Try.prog 49 := ⟨Try.call49⟩
instance : HasBody Try.prog 50 := ⟨Try.call50⟩
instance : HasBody Try.prog 51 := ⟨Try.call51⟩
instance : HasBody Try.prog 52 := ⟨Try.call52⟩
instance : HasBody Try.prog 53 := ⟨Try.call53⟩
instance : HasBody Try.prog 54 := ⟨Try.call54⟩
instance : HasBody Try.prog 55 := ⟨Try.call55⟩
instance : HasBody Try.prog 56 := ⟨Try.call56⟩
instance : HasBody Try.prog 57 := ⟨Try.call57⟩
instance : HasBody Try.prog 58 := ⟨Try.call58⟩
instance : HasBody Try.prog 59 := ⟨Try.call59⟩
instance : HasBody Try.prog 60 := ⟨Try.call60⟩
instance : HasBody Try.prog 61 := ⟨Try.call61⟩
instance : HasBody Try.prog 62 := ⟨Try.call62⟩
instance : HasBody Try.prog 63 := ⟨Try.call63⟩
instance : HasBody Try.prog 64 := ⟨Try.call64⟩
instance : HasBody Try.prog 65 := ⟨Try.call65⟩
instance : HasBody Try.prog 66 := ⟨Try.call66⟩
instance : HasBody Try.prog 67 := ⟨Try.call67⟩
instance : HasBody Try.prog 68 := ⟨Try.call68⟩
instance : HasBody Try.prog 69 := ⟨Try.call69⟩
instance : HasBody Try.prog 70 := ⟨Try.call70⟩
instance : HasBody Try.prog 71 := ⟨Try.call71⟩
instance : HasBody Try.prog 72 := ⟨Try.call72⟩
instance : HasBody Try.prog 73 := ⟨Try.call73⟩
instance : HasBody Try.prog 74 := ⟨Try.call74⟩
instance : HasBody Try.prog 75 := ⟨Try.call75⟩
instance : HasBody Try.prog 76 := ⟨Try.call76⟩
instance : HasBody Try.prog 77 := ⟨Try.call77⟩
instance : HasBody Try.prog 78 := ⟨Try.call78⟩
instance : HasBody Try.prog 79 := ⟨Try.call79⟩
instance : HasBody Try.prog 80 := ⟨Try.call80⟩
instance : HasBody Try.prog 81 := ⟨Try.call81⟩
instance : HasBody Try.prog 82 := ⟨Try.call82⟩
instance : HasBody Try.prog 83 := ⟨Try.call83⟩
instance : HasBody Try.prog 84 := ⟨Try.call84⟩
instance : HasBody Try.prog 85 := ⟨Try.call85⟩
instance : HasBody Try.prog 86 := ⟨Try.call86⟩
instance : HasBody Try.prog 87 := ⟨Try.call87⟩
instance : HasBody Try.prog 88 := ⟨Try.call88⟩
instance : HasBody Try.prog 89 := ⟨Try.call89⟩
instance : HasBody Try.prog 90 := ⟨Try.call90⟩
instance : HasBody Try.prog 91 := ⟨Try.call91⟩
instance : HasBody Try.prog 92 := ⟨Try.call92⟩
instance : HasBody Try.prog 93 := ⟨Try.call93⟩
end Go.Proofs.Ytomhcibbalhgkaa
