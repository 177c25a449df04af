import Derived.Test.YtaadjlpfdajggaaGreatDoorProg
import Derived.Test.YtaadjlpfdajggaaGreatDoorBvAm0
set_option maxRecDepth 100000
namespace Go.Proofs.YtaadjlpfdajggaaGreatDoor.T
open Go Go.AM
theorem ag3:aggO Tryz.prog 3 = some false:=by kernel_rfl
theorem by3:bytesO Tryz.prog 3 = some 8:=by kernel_rfl
theorem sz3:szO Tryz.prog 3 = some 1:=by kernel_rfl
theorem zc3:zc Tryz.prog 3 = some [.int .i64 0]:=by kernel_rfl
theorem ag4:aggO Tryz.prog 4 = some false:=by kernel_rfl
theorem ag22:aggO Tryz.prog 22 = some false:=by kernel_rfl
theorem sz22:szO Tryz.prog 22 = some 1:=by kernel_rfl
theorem ag23:aggO Tryz.prog 23 = some true:=by kernel_rfl
theorem sz23:szO Tryz.prog 23 = some 4:=by kernel_rfl
theorem ag25:aggO Tryz.prog 25 = some true:=by kernel_rfl
theorem sz25:szO Tryz.prog 25 = some 4:=by kernel_rfl
theorem ag35:aggO Tryz.prog 35 = some false:=by kernel_rfl
theorem sz35:szO Tryz.prog 35 = some 1:=by kernel_rfl
theorem ag37:aggO Tryz.prog 37 = some true:=by kernel_rfl
theorem sz37:szO Tryz.prog 37 = some 1:=by kernel_rfl
theorem zc37:zc Tryz.prog 37 = some [.slice none 0 0]:=by kernel_rfl
theorem ag72:aggO Tryz.prog 72 = some true:=by kernel_rfl
theorem by72:bytesO Tryz.prog 72 = some 96:=by kernel_rfl
theorem sz72:szO Tryz.prog 72 = some 12:=by kernel_rfl
theorem zc72:zc Tryz.prog 72 = some [.int .i64 0,.int .i64 0,.int .i64 0,.int .u64 0,.int .u64 0,.int .u64 0,.int .u64 0,.int .i64 0,.int .i64 0,.int .i64 0,.int .i64 0,.bool false]:=by kernel_rfl
theorem ag99:aggO Tryz.prog 99 = some false:=by kernel_rfl
theorem sz99:szO Tryz.prog 99 = some 1:=by kernel_rfl
theorem zc99:zc Tryz.prog 99 = some [.nilFunc]:=by kernel_rfl
theorem ag100:aggO Tryz.prog 100 = some false:=by kernel_rfl
theorem sz100:szO Tryz.prog 100 = some 1:=by kernel_rfl
theorem zc100:zc Tryz.prog 100 = some [.slice none 0 0]:=by kernel_rfl
end Go.Proofs.YtaadjlpfdajggaaGreatDoor.T
