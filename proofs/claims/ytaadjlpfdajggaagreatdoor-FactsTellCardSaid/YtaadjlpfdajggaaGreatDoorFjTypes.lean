import Derived.Test.YtaadjlpfdajggaaGreatDoorProg
import Derived.Test.YtaadjlpfdajggaaGreatDoorFjAm0
set_option maxRecDepth 100000
namespace Go.Proofs.YtaadjlpfdajggaaGreatDoor.T
open Go Go.AM
theorem ag3:aggO Tryz.prog 3 = some false:=by kernel_rfl
theorem by3:bytesO Tryz.prog 3 = some 8:=by kernel_rfl
theorem sz3:szO Tryz.prog 3 = some 1:=by kernel_rfl
theorem zc3:zc Tryz.prog 3 = some [.int .i64 0]:=by kernel_rfl
theorem ag4:aggO Tryz.prog 4 = some false:=by kernel_rfl
theorem sz4:szO Tryz.prog 4 = some 1:=by kernel_rfl
theorem ag5:aggO Tryz.prog 5 = some false:=by kernel_rfl
theorem sz5:szO Tryz.prog 5 = some 1:=by kernel_rfl
theorem zc5:zc Tryz.prog 5 = some [.int .u8 0]:=by kernel_rfl
theorem ag9:aggO Tryz.prog 9 = some false:=by kernel_rfl
theorem sz9:szO Tryz.prog 9 = some 1:=by kernel_rfl
theorem ag22:aggO Tryz.prog 22 = some false:=by kernel_rfl
theorem sz22:szO Tryz.prog 22 = some 1:=by kernel_rfl
theorem ag23:aggO Tryz.prog 23 = some true:=by kernel_rfl
theorem sz23:szO Tryz.prog 23 = some 4:=by kernel_rfl
theorem zc23:zc Tryz.prog 23 = some [.int .u64 0,.int .u64 0,.int .u64 0,.int .u64 0]:=by kernel_rfl
theorem ag25:aggO Tryz.prog 25 = some true:=by kernel_rfl
theorem sz25:szO Tryz.prog 25 = some 4:=by kernel_rfl
theorem zc25:zc Tryz.prog 25 = some [.int .u64 0,.int .u64 0,.int .u64 0,.int .u64 0]:=by kernel_rfl
theorem ag35:aggO Tryz.prog 35 = some false:=by kernel_rfl
theorem sz35:szO Tryz.prog 35 = some 1:=by kernel_rfl
theorem ag37:aggO Tryz.prog 37 = some true:=by kernel_rfl
theorem sz37:szO Tryz.prog 37 = some 1:=by kernel_rfl
theorem zc37:zc Tryz.prog 37 = some [.slice none 0 0]:=by kernel_rfl
theorem ag54:aggO Tryz.prog 54 = some true:=by kernel_rfl
theorem sz54:szO Tryz.prog 54 = some 7:=by kernel_rfl
theorem zc54:zc Tryz.prog 54 = some [.int .u64 0,.int .u64 0,.int .u64 0,.int .u64 0,.bool false,.bool false,.string ⟨#[]⟩]:=by kernel_rfl
theorem ag57:aggO Tryz.prog 57 = some true:=by kernel_rfl
theorem sz57:szO Tryz.prog 57 = some 256:=by kernel_rfl
theorem ag59:aggO Tryz.prog 59 = some true:=by kernel_rfl
theorem sz59:szO Tryz.prog 59 = some 256:=by kernel_rfl
theorem ag61:aggO Tryz.prog 61 = some true:=by kernel_rfl
theorem sz61:szO Tryz.prog 61 = some 259:=by kernel_rfl
theorem ag72:aggO Tryz.prog 72 = some true:=by kernel_rfl
theorem sz72:szO Tryz.prog 72 = some 12:=by kernel_rfl
theorem zc72:zc Tryz.prog 72 = some [.int .i64 0,.int .i64 0,.int .i64 0,.int .u64 0,.int .u64 0,.int .u64 0,.int .u64 0,.int .i64 0,.int .i64 0,.int .i64 0,.int .i64 0,.bool false]:=by kernel_rfl
theorem ag97:aggO Tryz.prog 97 = some true:=by kernel_rfl
theorem by97:bytesO Tryz.prog 97 = some 96:=by kernel_rfl
theorem sz97:szO Tryz.prog 97 = some 12:=by kernel_rfl
theorem zc97:zc Tryz.prog 97 = some [.int .i64 0,.int .i64 0,.int .i64 0,.int .u64 0,.int .u64 0,.int .u64 0,.int .u64 0,.int .i64 0,.int .i64 0,.int .i64 0,.int .i64 0,.bool false]:=by kernel_rfl
theorem ag99:aggO Tryz.prog 99 = some false:=by kernel_rfl
theorem sz99:szO Tryz.prog 99 = some 1:=by kernel_rfl
theorem zc99:zc Tryz.prog 99 = some [.nilFunc]:=by kernel_rfl
theorem ag100:aggO Tryz.prog 100 = some false:=by kernel_rfl
theorem sz100:szO Tryz.prog 100 = some 1:=by kernel_rfl
theorem zc100:zc Tryz.prog 100 = some [.slice none 0 0]:=by kernel_rfl
theorem ag107:aggO Tryz.prog 107 = some true:=by kernel_rfl
theorem by107:bytesO Tryz.prog 107 = some 64:=by kernel_rfl
theorem sz107:szO Tryz.prog 107 = some 9:=by kernel_rfl
theorem zc107:zc Tryz.prog 107 = some [.int .u64 0,.int .u64 0,.int .u64 0,.int .u64 0,.bool false,.bool false,.string ⟨#[]⟩,.bool false,.bool false]:=by kernel_rfl
end Go.Proofs.YtaadjlpfdajggaaGreatDoor.T
