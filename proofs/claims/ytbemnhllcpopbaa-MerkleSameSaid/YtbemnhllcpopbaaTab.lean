/- The types and functions of this translation, as instances for the calculus. Written by program. -/
import Derived.Test.YtbemnhllcpopbaaChecked
import Derived.Test.YtbemnhllcpopbaaJf
namespace Go.Proofs.Ytbemnhllcpopbaa
set_option maxRecDepth 100000
instance : Mixed Try.prog := ⟨by kernel_rfl⟩
instance : TInt Try.prog 3 .i64 := ⟨Try.underlying3⟩
instance : TInfo Try.prog 3 1 8 ([.int .i64 0]) := ⟨⟨(Try.prog.info? 3).getD default, .int .i64 0, by kernel_rfl, by kernel_rfl, by kernel_rfl, by kernel_rfl, by kernel_rfl, by kernel_rfl, by decide⟩⟩
instance : TCell Try.prog 3 := ⟨fun w => ⟨by kernel_rfl, by kernel_rfl⟩⟩
instance : TBool Try.prog 4 := ⟨Try.underlying4⟩
instance : TInfo Try.prog 4 1 1 ([.bool false]) := ⟨⟨(Try.prog.info? 4).getD default, .bool false, by kernel_rfl, by kernel_rfl, by kernel_rfl, by kernel_rfl, by kernel_rfl, by kernel_rfl, by decide⟩⟩
instance : TCell Try.prog 4 := ⟨fun w => ⟨by kernel_rfl, by kernel_rfl⟩⟩
instance : TInt Try.prog 5 .u8 := ⟨Try.underlying5⟩
instance : TInfo Try.prog 5 1 1 ([.int .u8 0]) := ⟨⟨(Try.prog.info? 5).getD default, .int .u8 0, by kernel_rfl, by kernel_rfl, by kernel_rfl, by kernel_rfl, by kernel_rfl, by kernel_rfl, by decide⟩⟩
instance : TCell Try.prog 5 := ⟨fun w => ⟨by kernel_rfl, by kernel_rfl⟩⟩
instance : TStr Try.prog 9 := ⟨Try.underlying9⟩
instance : TInfo Try.prog 9 1 16 ([.string ⟨#[]⟩]) := ⟨⟨(Try.prog.info? 9).getD default, .string ⟨#[]⟩, by kernel_rfl, by kernel_rfl, by kernel_rfl, by kernel_rfl, by kernel_rfl, by kernel_rfl, by decide⟩⟩
instance : TCell Try.prog 9 := ⟨fun w => ⟨by kernel_rfl, by kernel_rfl⟩⟩
instance : TSlice Try.prog 22 9 := ⟨Try.underlying22⟩
instance : TInfo Try.prog 22 1 24 ([.slice none 0 0]) := ⟨⟨(Try.prog.info? 22).getD default, .slice none 0 0, by kernel_rfl, by kernel_rfl, by kernel_rfl, by kernel_rfl, by kernel_rfl, by kernel_rfl, by decide⟩⟩
instance : TCell Try.prog 22 := ⟨fun w => ⟨by kernel_rfl, by kernel_rfl⟩⟩
instance : TInt Try.prog 24 .i64 := ⟨Try.underlying24⟩
instance : TInfo Try.prog 24 1 8 ([.int .i64 0]) := ⟨⟨(Try.prog.info? 24).getD default, .int .i64 0, by kernel_rfl, by kernel_rfl, by kernel_rfl, by kernel_rfl, by kernel_rfl, by kernel_rfl, by decide⟩⟩
instance : TCell Try.prog 24 := ⟨fun w => ⟨by kernel_rfl, by kernel_rfl⟩⟩
instance : TPtr Try.prog 33 41 := ⟨Try.underlying33⟩
instance : TInfo Try.prog 33 1 8 ([.pointer none]) := ⟨⟨(Try.prog.info? 33).getD default, .pointer none, by kernel_rfl, by kernel_rfl, by kernel_rfl, by kernel_rfl, by kernel_rfl, by kernel_rfl, by decide⟩⟩
instance : TCell Try.prog 33 := ⟨fun w => ⟨by kernel_rfl, by kernel_rfl⟩⟩
instance : TPtr Try.prog 39 66 := ⟨Try.underlying39⟩
instance : TInfo Try.prog 39 1 8 ([.pointer none]) := ⟨⟨(Try.prog.info? 39).getD default, .pointer none, by kernel_rfl, by kernel_rfl, by kernel_rfl, by kernel_rfl, by kernel_rfl, by kernel_rfl, by decide⟩⟩
instance : TCell Try.prog 39 := ⟨fun w => ⟨by kernel_rfl, by kernel_rfl⟩⟩
instance : TInfo Try.prog 41 4 64 ([.pointer none, .string ⟨#[]⟩, .slice none 0 0, .string ⟨#[]⟩]) := ⟨⟨(Try.prog.info? 41).getD default, .agg ([.pointer none, .string ⟨#[]⟩, .slice none 0 0, .string ⟨#[]⟩]).toArray, by kernel_rfl, by kernel_rfl, by kernel_rfl, by kernel_rfl, by kernel_rfl, by kernel_rfl, by decide⟩⟩
instance : TAgg Try.prog 41 4 := ⟨fun w => ⟨by kernel_rfl, by kernel_rfl⟩⟩
instance : TField Try.prog 41 0 0 := ⟨fun w => ⟨(fsOf (Try.prog.underlying 41)), (fsOf (Try.prog.underlying 41)).getD 0 default, by kernel_rfl, by kernel_rfl, by kernel_rfl, by kernel_rfl, fun a => by kernel_rfl⟩⟩
instance : TField Try.prog 41 1 1 := ⟨fun w => ⟨(fsOf (Try.prog.underlying 41)), (fsOf (Try.prog.underlying 41)).getD 1 default, by kernel_rfl, by kernel_rfl, by kernel_rfl, by kernel_rfl, fun a => by kernel_rfl⟩⟩
instance : TField Try.prog 41 2 2 := ⟨fun w => ⟨(fsOf (Try.prog.underlying 41)), (fsOf (Try.prog.underlying 41)).getD 2 default, by kernel_rfl, by kernel_rfl, by kernel_rfl, by kernel_rfl, fun a => by kernel_rfl⟩⟩
instance : TField Try.prog 41 3 3 := ⟨fun w => ⟨(fsOf (Try.prog.underlying 41)), (fsOf (Try.prog.underlying 41)).getD 3 default, by kernel_rfl, by kernel_rfl, by kernel_rfl, by kernel_rfl, fun a => by kernel_rfl⟩⟩
instance : TPlaces Try.prog 41 [(0, 1), (1, 1), (2, 1), (3, 1)] ([.pointer none, .string ⟨#[]⟩, .slice none 0 0, .string ⟨#[]⟩]) := ⟨fun w => ⟨by kernel_rfl, (fsOf (Try.prog.underlying 41)), by kernel_rfl, by kernel_rfl⟩⟩
instance : TSlice Try.prog 49 3 := ⟨Try.underlying49⟩
instance : TInfo Try.prog 49 1 24 ([.slice none 0 0]) := ⟨⟨(Try.prog.info? 49).getD default, .slice none 0 0, by kernel_rfl, by kernel_rfl, by kernel_rfl, by kernel_rfl, by kernel_rfl, by kernel_rfl, by decide⟩⟩
instance : TCell Try.prog 49 := ⟨fun w => ⟨by kernel_rfl, by kernel_rfl⟩⟩
instance : TSlice Try.prog 51 5 := ⟨Try.underlying51⟩
instance : TInfo Try.prog 51 1 24 ([.slice none 0 0]) := ⟨⟨(Try.prog.info? 51).getD default, .slice none 0 0, by kernel_rfl, by kernel_rfl, by kernel_rfl, by kernel_rfl, by kernel_rfl, by kernel_rfl, by decide⟩⟩
instance : TCell Try.prog 51 := ⟨fun w => ⟨by kernel_rfl, by kernel_rfl⟩⟩
instance : TArr Try.prog 53 2 5 := ⟨Try.underlying53⟩
instance : TInfo Try.prog 53 2 2 ([.int .u8 0, .int .u8 0]) := ⟨⟨(Try.prog.info? 53).getD default, .agg ([.int .u8 0, .int .u8 0]).toArray, by kernel_rfl, by kernel_rfl, by kernel_rfl, by kernel_rfl, by kernel_rfl, by kernel_rfl, by decide⟩⟩
instance : TAgg Try.prog 53 2 := ⟨fun w => ⟨by kernel_rfl, by kernel_rfl⟩⟩
instance : TSlice Try.prog 55 22 := ⟨Try.underlying55⟩
instance : TInfo Try.prog 55 1 24 ([.slice none 0 0]) := ⟨⟨(Try.prog.info? 55).getD default, .slice none 0 0, by kernel_rfl, by kernel_rfl, by kernel_rfl, by kernel_rfl, by kernel_rfl, by kernel_rfl, by decide⟩⟩
instance : TCell Try.prog 55 := ⟨fun w => ⟨by kernel_rfl, by kernel_rfl⟩⟩
instance : TInt Try.prog 61 .u64 := ⟨Try.underlying61⟩
instance : TInfo Try.prog 61 1 8 ([.int .u64 0]) := ⟨⟨(Try.prog.info? 61).getD default, .int .u64 0, by kernel_rfl, by kernel_rfl, by kernel_rfl, by kernel_rfl, by kernel_rfl, by kernel_rfl, by decide⟩⟩
instance : TCell Try.prog 61 := ⟨fun w => ⟨by kernel_rfl, by kernel_rfl⟩⟩
instance : TInfo Try.prog 62 1 8 ([.nilFunc]) := ⟨⟨(Try.prog.info? 62).getD default, .nilFunc, by kernel_rfl, by kernel_rfl, by kernel_rfl, by kernel_rfl, by kernel_rfl, by kernel_rfl, by decide⟩⟩
instance : TCell Try.prog 62 := ⟨fun w => ⟨by kernel_rfl, by kernel_rfl⟩⟩
instance : TInfo Try.prog 66 2 16 ([.int .i64 0, .int .i64 0]) := ⟨⟨(Try.prog.info? 66).getD default, .agg ([.int .i64 0, .int .i64 0]).toArray, by kernel_rfl, by kernel_rfl, by kernel_rfl, by kernel_rfl, by kernel_rfl, by kernel_rfl, by decide⟩⟩
instance : TAgg Try.prog 66 2 := ⟨fun w => ⟨by kernel_rfl, by kernel_rfl⟩⟩
instance : TField Try.prog 66 0 0 := ⟨fun w => ⟨(fsOf (Try.prog.underlying 66)), (fsOf (Try.prog.underlying 66)).getD 0 default, by kernel_rfl, by kernel_rfl, by kernel_rfl, by kernel_rfl, fun a => by kernel_rfl⟩⟩
instance : TField Try.prog 66 1 1 := ⟨fun w => ⟨(fsOf (Try.prog.underlying 66)), (fsOf (Try.prog.underlying 66)).getD 1 default, by kernel_rfl, by kernel_rfl, by kernel_rfl, by kernel_rfl, fun a => by kernel_rfl⟩⟩
instance : TPlaces Try.prog 66 [(0, 1), (1, 1)] ([.int .i64 0, .int .i64 0]) := ⟨fun w => ⟨by kernel_rfl, (fsOf (Try.prog.underlying 66)), by kernel_rfl, by kernel_rfl⟩⟩
instance : TInfo Try.prog 71 1 8 ([.nilFunc]) := ⟨⟨(Try.prog.info? 71).getD default, .nilFunc, by kernel_rfl, by kernel_rfl, by kernel_rfl, by kernel_rfl, by kernel_rfl, by kernel_rfl, by decide⟩⟩
instance : TCell Try.prog 71 := ⟨fun w => ⟨by kernel_rfl, by kernel_rfl⟩⟩
instance : TInfo Try.prog 74 1 8 ([.nilFunc]) := ⟨⟨(Try.prog.info? 74).getD default, .nilFunc, by kernel_rfl, by kernel_rfl, by kernel_rfl, by kernel_rfl, by kernel_rfl, by kernel_rfl, by decide⟩⟩
instance : TCell Try.prog 74 := ⟨fun w => ⟨by kernel_rfl, by kernel_rfl⟩⟩
instance : TInfo Try.prog 75 1 8 ([.nilFunc]) := ⟨⟨(Try.prog.info? 75).getD default, .nilFunc, by kernel_rfl, by kernel_rfl, by kernel_rfl, by kernel_rfl, by kernel_rfl, by kernel_rfl, by decide⟩⟩
instance : TCell Try.prog 75 := ⟨fun w => ⟨by kernel_rfl, by kernel_rfl⟩⟩
instance : TArr Try.prog 78 18 3 := ⟨Try.underlying78⟩
instance : TInfo Try.prog 78 18 144 (List.replicate 18 (.int .i64 0)) := ⟨⟨(Try.prog.info? 78).getD default, .agg (List.replicate 18 (.int .i64 0)).toArray, by kernel_rfl, by kernel_rfl, by kernel_rfl, by kernel_rfl, by kernel_rfl, by kernel_rfl, by decide⟩⟩
instance : TAgg Try.prog 78 18 := ⟨fun w => ⟨by kernel_rfl, by kernel_rfl⟩⟩
instance : TInfo Try.prog 81 1 8 ([.nilFunc]) := ⟨⟨(Try.prog.info? 81).getD default, .nilFunc, by kernel_rfl, by kernel_rfl, by kernel_rfl, by kernel_rfl, by kernel_rfl, by kernel_rfl, by decide⟩⟩
instance : TCell Try.prog 81 := ⟨fun w => ⟨by kernel_rfl, by kernel_rfl⟩⟩
instance : TInt Try.prog 82 .u32 := ⟨Try.underlying82⟩
instance : TInfo Try.prog 82 1 4 ([.int .u32 0]) := ⟨⟨(Try.prog.info? 82).getD default, .int .u32 0, by kernel_rfl, by kernel_rfl, by kernel_rfl, by kernel_rfl, by kernel_rfl, by kernel_rfl, by decide⟩⟩
instance : TCell Try.prog 82 := ⟨fun w => ⟨by kernel_rfl, by kernel_rfl⟩⟩
instance : TSlice Try.prog 83 82 := ⟨Try.underlying83⟩
instance : TInfo Try.prog 83 1 24 ([.slice none 0 0]) := ⟨⟨(Try.prog.info? 83).getD default, .slice none 0 0, by kernel_rfl, by kernel_rfl, by kernel_rfl, by kernel_rfl, by kernel_rfl, by kernel_rfl, by decide⟩⟩
instance : TCell Try.prog 83 := ⟨fun w => ⟨by kernel_rfl, by kernel_rfl⟩⟩
instance : TPtr Try.prog 87 96 := ⟨Try.underlying87⟩
instance : TInfo Try.prog 87 1 8 ([.pointer none]) := ⟨⟨(Try.prog.info? 87).getD default, .pointer none, by kernel_rfl, by kernel_rfl, by kernel_rfl, by kernel_rfl, by kernel_rfl, by kernel_rfl, by decide⟩⟩
instance : TCell Try.prog 87 := ⟨fun w => ⟨by kernel_rfl, by kernel_rfl⟩⟩
instance : TArr Try.prog 92 8 82 := ⟨Try.underlying92⟩
instance : TInfo Try.prog 92 8 32 (List.replicate 8 (.int .u32 0)) := ⟨⟨(Try.prog.info? 92).getD default, .agg (List.replicate 8 (.int .u32 0)).toArray, by kernel_rfl, by kernel_rfl, by kernel_rfl, by kernel_rfl, by kernel_rfl, by kernel_rfl, by decide⟩⟩
instance : TAgg Try.prog 92 8 := ⟨fun w => ⟨by kernel_rfl, by kernel_rfl⟩⟩
instance : TArr Try.prog 93 8 82 := ⟨Try.underlying93⟩
instance : TInfo Try.prog 93 8 32 (List.replicate 8 (.int .u32 0)) := ⟨⟨(Try.prog.info? 93).getD default, .agg (List.replicate 8 (.int .u32 0)).toArray, by kernel_rfl, by kernel_rfl, by kernel_rfl, by kernel_rfl, by kernel_rfl, by kernel_rfl, by decide⟩⟩
instance : TAgg Try.prog 93 8 := ⟨fun w => ⟨by kernel_rfl, by kernel_rfl⟩⟩
instance : TInfo Try.prog 96 10 56 ([.int .u32 0, .int .u32 0, .int .u32 0, .int .u32 0, .int .u32 0, .int .u32 0, .int .u32 0, .int .u32 0, .string ⟨#[]⟩, .int .i64 0]) := ⟨⟨(Try.prog.info? 96).getD default, .agg ([.int .u32 0, .int .u32 0, .int .u32 0, .int .u32 0, .int .u32 0, .int .u32 0, .int .u32 0, .int .u32 0, .string ⟨#[]⟩, .int .i64 0]).toArray, by kernel_rfl, by kernel_rfl, by kernel_rfl, by kernel_rfl, by kernel_rfl, by kernel_rfl, by decide⟩⟩
instance : TAgg Try.prog 96 10 := ⟨fun w => ⟨by kernel_rfl, by kernel_rfl⟩⟩
instance : TFieldAgg Try.prog 96 0 0 8 := ⟨fun w => ⟨(fsOf (Try.prog.underlying 96)), (fsOf (Try.prog.underlying 96)).getD 0 default, by kernel_rfl, by kernel_rfl, by kernel_rfl, by kernel_rfl, by kernel_rfl, fun a => by kernel_rfl⟩⟩
instance : TField Try.prog 96 1 8 := ⟨fun w => ⟨(fsOf (Try.prog.underlying 96)), (fsOf (Try.prog.underlying 96)).getD 1 default, by kernel_rfl, by kernel_rfl, by kernel_rfl, by kernel_rfl, fun a => by kernel_rfl⟩⟩
instance : TField Try.prog 96 2 9 := ⟨fun w => ⟨(fsOf (Try.prog.underlying 96)), (fsOf (Try.prog.underlying 96)).getD 2 default, by kernel_rfl, by kernel_rfl, by kernel_rfl, by kernel_rfl, fun a => by kernel_rfl⟩⟩
instance : TPlaces Try.prog 96 [(0, 8), (8, 1), (9, 1)] ([.int .u32 0, .int .u32 0, .int .u32 0, .int .u32 0, .int .u32 0, .int .u32 0, .int .u32 0, .int .u32 0, .string ⟨#[]⟩, .int .i64 0]) := ⟨fun w => ⟨by kernel_rfl, (fsOf (Try.prog.underlying 96)), by kernel_rfl, by kernel_rfl⟩⟩
instance : TInt Try.prog 97 .u64 := ⟨Try.underlying97⟩
instance : TInfo Try.prog 97 1 8 ([.int .u64 0]) := ⟨⟨(Try.prog.info? 97).getD default, .int .u64 0, by kernel_rfl, by kernel_rfl, by kernel_rfl, by kernel_rfl, by kernel_rfl, by kernel_rfl, by decide⟩⟩
instance : TCell Try.prog 97 := ⟨fun w => ⟨by kernel_rfl, by kernel_rfl⟩⟩
instance : TPtr Try.prog 98 93 := ⟨Try.underlying98⟩
instance : TInfo Try.prog 98 1 8 ([.pointer none]) := ⟨⟨(Try.prog.info? 98).getD default, .pointer none, by kernel_rfl, by kernel_rfl, by kernel_rfl, by kernel_rfl, by kernel_rfl, by kernel_rfl, by decide⟩⟩
instance : TCell Try.prog 98 := ⟨fun w => ⟨by kernel_rfl, by kernel_rfl⟩⟩
instance : TPtr Try.prog 99 102 := ⟨Try.underlying99⟩
instance : TInfo Try.prog 99 1 8 ([.pointer none]) := ⟨⟨(Try.prog.info? 99).getD default, .pointer none, by kernel_rfl, by kernel_rfl, by kernel_rfl, by kernel_rfl, by kernel_rfl, by kernel_rfl, by decide⟩⟩
instance : TCell Try.prog 99 := ⟨fun w => ⟨by kernel_rfl, by kernel_rfl⟩⟩
instance : TArr Try.prog 102 64 82 := ⟨Try.underlying102⟩
instance : TInfo Try.prog 102 64 256 (List.replicate 64 (.int .u32 0)) := ⟨⟨(Try.prog.info? 102).getD default, .agg (List.replicate 64 (.int .u32 0)).toArray, by kernel_rfl, by kernel_rfl, by kernel_rfl, by kernel_rfl, by kernel_rfl, by kernel_rfl, by decide⟩⟩
instance : TAgg Try.prog 102 64 := ⟨fun w => ⟨by kernel_rfl, by kernel_rfl⟩⟩
instance : HasBody Try.prog 3 := ⟨Try.call3⟩
instance : HasBody Try.prog 4 := ⟨Try.call4⟩
instance : HasBody Try.prog 5 := ⟨Try.call5⟩
instance : HasBody Try.prog 6 := ⟨Try.call6⟩
instance : HasBody Try.prog 7 := ⟨Try.call7⟩
instance : HasBody Try.prog 8 := ⟨Try.call8⟩
instance : HasBody Try.prog 9 := ⟨Try.call9⟩
instance : HasBody Try.prog 10 := ⟨Try.call10⟩
instance : HasBody Try.prog 11 := ⟨Try.call11⟩
instance : HasBody Try.prog 12 := ⟨Try.call12⟩
instance : HasBody Try.prog 13 := ⟨Try.call13⟩
instance : HasBody Try.prog 14 := ⟨Try.call14⟩
instance : HasBody Try.prog 15 := ⟨Try.call15⟩
instance : HasBody Try.prog 16 := ⟨Try.call16⟩
instance : HasBody Try.prog 17 := ⟨Try.call17⟩
instance : HasBody Try.prog 18 := ⟨Try.call18⟩
instance : HasBody Try.prog 19 := ⟨Try.call19⟩
instance : HasBody Try.prog 20 := ⟨Try.call20⟩
instance : HasBody Try.prog 21 := ⟨Try.call21⟩
instance : HasBody Try.prog 22 := ⟨Try.call22⟩
instance : HasBody Try.prog 23 := ⟨Try.call23⟩
instance : HasBody Try.prog 24 := ⟨Try.call24⟩
instance : HasBody Try.prog 25 := ⟨Try.call25⟩
instance : HasBody Try.prog 26 := ⟨Try.call26⟩
instance : HasBody Try.prog 27 := ⟨Try.call27⟩
instance : HasBody Try.prog 28 := ⟨Try.call28⟩
instance : HasBody Try.prog 29 := ⟨Try.call29⟩
instance : HasBody Try.prog 30 := ⟨Try.call30⟩
instance : HasBody Try.prog 31 := ⟨Try.call31⟩
instance : HasBody Try.prog 32 := ⟨Try.call32⟩
instance : HasBody Try.prog 33 := ⟨Try.call33⟩
instance : HasBody Try.prog 34 := ⟨Try.call34⟩
instance : HasBody Try.prog 35 := ⟨Try.call35⟩
instance : HasBody Try.prog 36 := ⟨Try.call36⟩
instance : HasBody Try.prog 37 := ⟨Try.call37⟩
instance : HasBody Try.prog 38 := ⟨Try.call38⟩
instance : HasBody Try.prog 39 := ⟨Try.call39⟩
instance : HasBody Try.prog 40 := ⟨Try.call40⟩
instance : HasBody Try.prog 41 := ⟨Try.call41⟩
instance : HasBody Try.prog 42 := ⟨Try.call42⟩
instance : HasBody Try.prog 43 := ⟨Try.call43⟩
instance : HasBody Try.prog 44 := ⟨Try.call44⟩
instance : HasBody Try.prog 45 := ⟨Try.call45⟩
instance : HasBody Try.prog 46 := ⟨Try.call46⟩
instance : HasBody Try.prog 47 := ⟨Try.call47⟩
instance : HasBody Try.prog 48 := ⟨Try.call48⟩
instance : HasBody Try.prog 49 := ⟨Try.call49⟩
instance : HasBody Try.prog 50 := ⟨Try.call50⟩
instance : HasBody Try.prog 51 := ⟨Try.call51⟩
instance : HasBody Try.prog 52 := ⟨Try.call52⟩
instance : HasBody Try.prog 53 := ⟨Try.call53⟩
instance : HasBody Try.prog 54 := ⟨Try.call54⟩
instance : HasBody Try.prog 55 := ⟨Try.call55⟩
instance : HasBody Try.prog 56 := ⟨Try.call56⟩
instance : HasBody Try.prog 57 := ⟨Try.call57⟩
instance : HasBody Try.prog 58 := ⟨Try.call58⟩
instance : HasBody Try.prog 59 := ⟨Try.call59⟩
instance : HasBody Try.prog 60 := ⟨Try.call60⟩
instance : HasBody Try.prog 61 := ⟨Try.call61⟩
instance : HasBody Try.prog 62 := ⟨Try.call62⟩
instance : HasBody Try.prog 63 := ⟨Try.call63⟩
instance : HasBody Try.prog 64 := ⟨Try.call64⟩
instance : HasBody Try.prog 65 := ⟨Try.call65⟩
instance : HasBody Try.prog 66 := ⟨Try.call66⟩
instance : HasBody Try.prog 67 := ⟨Try.call67⟩
instance : HasBody Try.prog 68 := ⟨Try.call68⟩
instance : HasBody Try.prog 69 := ⟨Try.call69⟩
instance : HasBody Try.prog 70 := ⟨Try.call70⟩
instance : HasBody Try.prog 71 := ⟨Try.call71⟩
instance : HasBody Try.prog 72 := ⟨Try.call72⟩
instance : HasBody Try.prog 73 := ⟨Try.call73⟩
instance : HasBody Try.prog 74 := ⟨Try.call74⟩
instance : HasBody Try.prog 75 := ⟨Try.call75⟩
instance : HasBody Try.prog 76 := ⟨Try.call76⟩
instance : HasBody Try.prog 77 := ⟨Try.call77⟩
instance : HasBody Try.prog 78 := ⟨Try.call78⟩
instance : HasBody Try.prog 79 := ⟨Try.call79⟩
end Go.Proofs.Ytbemnhllcpopbaa
