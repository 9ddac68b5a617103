/- The types and functions of this translation, as instances for the calculus. Written by program. -/
import Derived.Test.YtfghgngobbhiiaaChecked
import Derived.Test.YtfghgngobbhiiaaJf
namespace Go.Proofs.Ytfghgngobbhiiaa
set_option maxRecDepth 100000
instance : Mixed Try.prog := ⟨by kernel_rfl⟩
instance : TInt Try.prog 3 .i64 := ⟨Try.underlying3⟩
instance : TInfo Try.prog 3 1 8 ([.int .i64 0]) := ⟨⟨(Try.prog.info? 3).getD default, .int .i64 0, by kernel_rfl, by kernel_rfl, by kernel_rfl, by kernel_rfl, by kernel_rfl, by kernel_rfl, by decide⟩⟩
instance : TCell Try.prog 3 := ⟨fun w => ⟨by kernel_rfl, by kernel_rfl⟩⟩
instance : TBool Try.prog 4 := ⟨Try.underlying4⟩
instance : TInfo Try.prog 4 1 1 ([.bool false]) := ⟨⟨(Try.prog.info? 4).getD default, .bool false, by kernel_rfl, by kernel_rfl, by kernel_rfl, by kernel_rfl, by kernel_rfl, by kernel_rfl, by decide⟩⟩
instance : TCell Try.prog 4 := ⟨fun w => ⟨by kernel_rfl, by kernel_rfl⟩⟩
instance : TInt Try.prog 5 .u8 := ⟨Try.underlying5⟩
instance : TInfo Try.prog 5 1 1 ([.int .u8 0]) := ⟨⟨(Try.prog.info? 5).getD default, .int .u8 0, by kernel_rfl, by kernel_rfl, by kernel_rfl, by kernel_rfl, by kernel_rfl, by kernel_rfl, by decide⟩⟩
instance : TCell Try.prog 5 := ⟨fun w => ⟨by kernel_rfl, by kernel_rfl⟩⟩
instance : TStr Try.prog 9 := ⟨Try.underlying9⟩
instance : TInfo Try.prog 9 1 16 ([.string ⟨#[]⟩]) := ⟨⟨(Try.prog.info? 9).getD default, .string ⟨#[]⟩, by kernel_rfl, by kernel_rfl, by kernel_rfl, by kernel_rfl, by kernel_rfl, by kernel_rfl, by decide⟩⟩
instance : TCell Try.prog 9 := ⟨fun w => ⟨by kernel_rfl, by kernel_rfl⟩⟩
instance : TSlice Try.prog 25 9 := ⟨Try.underlying25⟩
instance : TInfo Try.prog 25 1 24 ([.slice none 0 0]) := ⟨⟨(Try.prog.info? 25).getD default, .slice none 0 0, by kernel_rfl, by kernel_rfl, by kernel_rfl, by kernel_rfl, by kernel_rfl, by kernel_rfl, by decide⟩⟩
instance : TCell Try.prog 25 := ⟨fun w => ⟨by kernel_rfl, by kernel_rfl⟩⟩
instance : TPtr Try.prog 29 50 := ⟨Try.underlying29⟩
instance : TInfo Try.prog 29 1 8 ([.pointer none]) := ⟨⟨(Try.prog.info? 29).getD default, .pointer none, by kernel_rfl, by kernel_rfl, by kernel_rfl, by kernel_rfl, by kernel_rfl, by kernel_rfl, by decide⟩⟩
instance : TCell Try.prog 29 := ⟨fun w => ⟨by kernel_rfl, by kernel_rfl⟩⟩
instance : TSlice Try.prog 35 5 := ⟨Try.underlying35⟩
instance : TInfo Try.prog 35 1 24 ([.slice none 0 0]) := ⟨⟨(Try.prog.info? 35).getD default, .slice none 0 0, by kernel_rfl, by kernel_rfl, by kernel_rfl, by kernel_rfl, by kernel_rfl, by kernel_rfl, by decide⟩⟩
instance : TCell Try.prog 35 := ⟨fun w => ⟨by kernel_rfl, by kernel_rfl⟩⟩
instance : TInt Try.prog 40 .u32 := ⟨Try.underlying40⟩
instance : TInfo Try.prog 40 1 4 ([.int .u32 0]) := ⟨⟨(Try.prog.info? 40).getD default, .int .u32 0, by kernel_rfl, by kernel_rfl, by kernel_rfl, by kernel_rfl, by kernel_rfl, by kernel_rfl, by decide⟩⟩
instance : TCell Try.prog 40 := ⟨fun w => ⟨by kernel_rfl, by kernel_rfl⟩⟩
instance : TSlice Try.prog 41 40 := ⟨Try.underlying41⟩
instance : TInfo Try.prog 41 1 24 ([.slice none 0 0]) := ⟨⟨(Try.prog.info? 41).getD default, .slice none 0 0, by kernel_rfl, by kernel_rfl, by kernel_rfl, by kernel_rfl, by kernel_rfl, by kernel_rfl, by decide⟩⟩
instance : TCell Try.prog 41 := ⟨fun w => ⟨by kernel_rfl, by kernel_rfl⟩⟩
instance : TInt Try.prog 45 .u64 := ⟨Try.underlying45⟩
instance : TInfo Try.prog 45 1 8 ([.int .u64 0]) := ⟨⟨(Try.prog.info? 45).getD default, .int .u64 0, by kernel_rfl, by kernel_rfl, by kernel_rfl, by kernel_rfl, by kernel_rfl, by kernel_rfl, by decide⟩⟩
instance : TCell Try.prog 45 := ⟨fun w => ⟨by kernel_rfl, by kernel_rfl⟩⟩
instance : TArr Try.prog 46 8 40 := ⟨Try.underlying46⟩
instance : TInfo Try.prog 46 8 32 (List.replicate 8 (.int .u32 0)) := ⟨⟨(Try.prog.info? 46).getD default, .agg (List.replicate 8 (.int .u32 0)).toArray, by kernel_rfl, by kernel_rfl, by kernel_rfl, by kernel_rfl, by kernel_rfl, by kernel_rfl, by decide⟩⟩
instance : TAgg Try.prog 46 8 := ⟨fun w => ⟨by kernel_rfl, by kernel_rfl⟩⟩
instance : TArr Try.prog 47 8 40 := ⟨Try.underlying47⟩
instance : TInfo Try.prog 47 8 32 (List.replicate 8 (.int .u32 0)) := ⟨⟨(Try.prog.info? 47).getD default, .agg (List.replicate 8 (.int .u32 0)).toArray, by kernel_rfl, by kernel_rfl, by kernel_rfl, by kernel_rfl, by kernel_rfl, by kernel_rfl, by decide⟩⟩
instance : TAgg Try.prog 47 8 := ⟨fun w => ⟨by kernel_rfl, by kernel_rfl⟩⟩
instance : TInfo Try.prog 50 10 56 ([.int .u32 0, .int .u32 0, .int .u32 0, .int .u32 0, .int .u32 0, .int .u32 0, .int .u32 0, .int .u32 0, .string ⟨#[]⟩, .int .i64 0]) := ⟨⟨(Try.prog.info? 50).getD default, .agg ([.int .u32 0, .int .u32 0, .int .u32 0, .int .u32 0, .int .u32 0, .int .u32 0, .int .u32 0, .int .u32 0, .string ⟨#[]⟩, .int .i64 0]).toArray, by kernel_rfl, by kernel_rfl, by kernel_rfl, by kernel_rfl, by kernel_rfl, by kernel_rfl, by decide⟩⟩
instance : TAgg Try.prog 50 10 := ⟨fun w => ⟨by kernel_rfl, by kernel_rfl⟩⟩
instance : TFieldAgg Try.prog 50 0 0 8 := ⟨fun w => ⟨(fsOf (Try.prog.underlying 50)), (fsOf (Try.prog.underlying 50)).getD 0 default, by kernel_rfl, by kernel_rfl, by kernel_rfl, by kernel_rfl, by kernel_rfl, fun a => by kernel_rfl⟩⟩
instance : TField Try.prog 50 1 8 := ⟨fun w => ⟨(fsOf (Try.prog.underlying 50)), (fsOf (Try.prog.underlying 50)).getD 1 default, by kernel_rfl, by kernel_rfl, by kernel_rfl, by kernel_rfl, fun a => by kernel_rfl⟩⟩
instance : TField Try.prog 50 2 9 := ⟨fun w => ⟨(fsOf (Try.prog.underlying 50)), (fsOf (Try.prog.underlying 50)).getD 2 default, by kernel_rfl, by kernel_rfl, by kernel_rfl, by kernel_rfl, fun a => by kernel_rfl⟩⟩
instance : TPlaces Try.prog 50 [(0, 8), (8, 1), (9, 1)] ([.int .u32 0, .int .u32 0, .int .u32 0, .int .u32 0, .int .u32 0, .int .u32 0, .int .u32 0, .int .u32 0, .string ⟨#[]⟩, .int .i64 0]) := ⟨fun w => ⟨by kernel_rfl, (fsOf (Try.prog.underlying 50)), by kernel_rfl, by kernel_rfl⟩⟩
instance : TInt Try.prog 51 .u64 := ⟨Try.underlying51⟩
instance : TInfo Try.prog 51 1 8 ([.int .u64 0]) := ⟨⟨(Try.prog.info? 51).getD default, .int .u64 0, by kernel_rfl, by kernel_rfl, by kernel_rfl, by kernel_rfl, by kernel_rfl, by kernel_rfl, by decide⟩⟩
instance : TCell Try.prog 51 := ⟨fun w => ⟨by kernel_rfl, by kernel_rfl⟩⟩
instance : TPtr Try.prog 54 47 := ⟨Try.underlying54⟩
instance : TInfo Try.prog 54 1 8 ([.pointer none]) := ⟨⟨(Try.prog.info? 54).getD default, .pointer none, by kernel_rfl, by kernel_rfl, by kernel_rfl, by kernel_rfl, by kernel_rfl, by kernel_rfl, by decide⟩⟩
instance : TCell Try.prog 54 := ⟨fun w => ⟨by kernel_rfl, by kernel_rfl⟩⟩
instance : TPtr Try.prog 55 58 := ⟨Try.underlying55⟩
instance : TInfo Try.prog 55 1 8 ([.pointer none]) := ⟨⟨(Try.prog.info? 55).getD default, .pointer none, by kernel_rfl, by kernel_rfl, by kernel_rfl, by kernel_rfl, by kernel_rfl, by kernel_rfl, by decide⟩⟩
instance : TCell Try.prog 55 := ⟨fun w => ⟨by kernel_rfl, by kernel_rfl⟩⟩
instance : TArr Try.prog 58 64 40 := ⟨Try.underlying58⟩
instance : TInfo Try.prog 58 64 256 (List.replicate 64 (.int .u32 0)) := ⟨⟨(Try.prog.info? 58).getD default, .agg (List.replicate 64 (.int .u32 0)).toArray, by kernel_rfl, by kernel_rfl, by kernel_rfl, by kernel_rfl, by kernel_rfl, by kernel_rfl, by decide⟩⟩
instance : TAgg Try.prog 58 64 := ⟨fun w => ⟨by kernel_rfl, by kernel_rfl⟩⟩
instance : HasBody Try.prog 3 := ⟨Try.call3⟩
instance : HasBody Try.prog 4 := ⟨Try.call4⟩
instance : HasBody Try.prog 5 := ⟨Try.call5⟩
instance : HasBody Try.prog 6 := ⟨Try.call6⟩
instance : HasBody Try.prog 7 := ⟨Try.call7⟩
instance : HasBody Try.prog 8 := ⟨Try.call8⟩
instance : HasBody Try.prog 9 := ⟨Try.call9⟩
instance : HasBody Try.prog 10 := ⟨Try.call10⟩
instance : HasBody Try.prog 11 := ⟨Try.call11⟩
instance : HasBody Try.prog 12 := ⟨Try.call12⟩
instance : HasBody Try.prog 13 := ⟨Try.call13⟩
instance : HasBody Try.prog 14 := ⟨Try.call14⟩
instance : HasBody Try.prog 15 := ⟨Try.call15⟩
instance : HasBody Try.prog 16 := ⟨Try.call16⟩
instance : HasBody Try.prog 17 := ⟨Try.call17⟩
instance : HasBody Try.prog 18 := ⟨Try.call18⟩
instance : HasBody Try.prog 19 := ⟨Try.call19⟩
instance : HasBody Try.prog 20 := ⟨Try.call20⟩
instance : HasBody Try.prog 21 := ⟨Try.call21⟩
instance : HasBody Try.prog 22 := ⟨Try.call22⟩
instance : HasBody Try.prog 23 := ⟨Try.call23⟩
instance : HasBody Try.prog 24 := ⟨Try.call24⟩
instance : HasBody Try.prog 25 := ⟨Try.call25⟩
instance : HasBody Try.prog 26 := ⟨Try.call26⟩
instance : HasBody Try.prog 27 := ⟨Try.call27⟩
instance : HasBody Try.prog 28 := ⟨Try.call28⟩
instance : HasBody Try.prog 29 := ⟨Try.call29⟩
instance : HasBody Try.prog 30 := ⟨Try.call30⟩
instance : HasBody Try.prog 31 := ⟨Try.call31⟩
instance : HasBody Try.prog 32 := ⟨Try.call32⟩
instance : HasBody Try.prog 33 := ⟨Try.call33⟩
instance : HasBody Try.prog 34 := ⟨Try.call34⟩
end Go.Proofs.Ytfghgngobbhiiaa
