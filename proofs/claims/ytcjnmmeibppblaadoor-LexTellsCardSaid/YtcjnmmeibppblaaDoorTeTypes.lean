import Derived.Test.YtcjnmmeibppblaaDoorProg
import Derived.Test.YtcjnmmeibppblaaDoorTeAm0
set_option maxRecDepth 100000
namespace Go.Proofs.YtcjnmmeibppblaaDoor.T
open Go Go.AM
theorem ag3:aggO Tryd.prog 3 = some false:=by kernel_rfl
theorem sz3:szO Tryd.prog 3 = some 1:=by kernel_rfl
theorem zc3:zc Tryd.prog 3 = some [.int .i64 0]:=by kernel_rfl
theorem ag4:aggO Tryd.prog 4 = some false:=by kernel_rfl
theorem sz4:szO Tryd.prog 4 = some 1:=by kernel_rfl
theorem ag5:aggO Tryd.prog 5 = some false:=by kernel_rfl
theorem sz5:szO Tryd.prog 5 = some 1:=by kernel_rfl
theorem zc5:zc Tryd.prog 5 = some [.int .u8 0]:=by kernel_rfl
theorem ag9:aggO Tryd.prog 9 = some false:=by kernel_rfl
theorem sz9:szO Tryd.prog 9 = some 1:=by kernel_rfl
theorem zc9:zc Tryd.prog 9 = some [.string ⟨#[]⟩]:=by kernel_rfl
theorem ag33:aggO Tryd.prog 33 = some false:=by kernel_rfl
theorem sz33:szO Tryd.prog 33 = some 1:=by kernel_rfl
theorem ag34:aggO Tryd.prog 34 = some true:=by kernel_rfl
theorem sz34:szO Tryd.prog 34 = some 4:=by kernel_rfl
theorem zc34:zc Tryd.prog 34 = some [.int .u64 0,.int .u64 0,.int .u64 0,.int .u64 0]:=by kernel_rfl
theorem ag36:aggO Tryd.prog 36 = some true:=by kernel_rfl
theorem sz36:szO Tryd.prog 36 = some 4:=by kernel_rfl
theorem zc36:zc Tryd.prog 36 = some [.int .u64 0,.int .u64 0,.int .u64 0,.int .u64 0]:=by kernel_rfl
theorem ag46:aggO Tryd.prog 46 = some true:=by kernel_rfl
theorem by46:bytesO Tryd.prog 46 = some 88:=by kernel_rfl
theorem sz46:szO Tryd.prog 46 = some 10:=by kernel_rfl
theorem zc46:zc Tryd.prog 46 = some [.int .i64 0,.int .u64 0,.int .u64 0,.int .u64 0,.int .u64 0,.int .i64 0,.int .i64 0,.int .i64 0,.int .i64 0,.string ⟨#[]⟩]:=by kernel_rfl
theorem ag59:aggO Tryd.prog 59 = some true:=by kernel_rfl
theorem by59:bytesO Tryd.prog 59 = some 88:=by kernel_rfl
theorem sz59:szO Tryd.prog 59 = some 10:=by kernel_rfl
theorem zc59:zc Tryd.prog 59 = some [.int .i64 0,.int .u64 0,.int .u64 0,.int .u64 0,.int .u64 0,.int .i64 0,.int .i64 0,.int .i64 0,.int .i64 0,.string ⟨#[]⟩]:=by kernel_rfl
theorem sz66:szO Tryd.prog 66 = some 256:=by kernel_rfl
theorem ag68:aggO Tryd.prog 68 = some true:=by kernel_rfl
theorem sz68:szO Tryd.prog 68 = some 256:=by kernel_rfl
theorem zc68:zc Tryd.prog 68 = some (List.replicate 256 (.bool false)):=by kernel_rfl
theorem sz87:szO Tryd.prog 87 = some 5:=by kernel_rfl
theorem zc87:zc Tryd.prog 87 = some [.int .i64 0,.int .i64 0,.int .i64 0,.int .i64 0,.int .i64 0]:=by kernel_rfl
theorem zc88:zc Tryd.prog 88 = some [.string ⟨#[]⟩,.string ⟨#[]⟩,.string ⟨#[]⟩,.string ⟨#[]⟩,.string ⟨#[]⟩,.string ⟨#[]⟩]:=by kernel_rfl
end Go.Proofs.YtcjnmmeibppblaaDoor.T
