/-
  LexBytes: the bytes from 0 to 63.
-/
import Derived.Test.YtcjnmmeibppblaaDoorBytes
set_option maxRecDepth 1000000
namespace Go.Proofs.YtcjnmmeibppblaaDoor
open Go Go.AM
theorem b0 : ((List.range 16).all fun k => byteTrue (0 + k)) = true := by kernel_rfl
theorem b16 : ((List.range 16).all fun k => byteTrue (16 + k)) = true := by kernel_rfl
theorem b32 : ((List.range 16).all fun k => byteTrue (32 + k)) = true := by kernel_rfl
theorem b48 : ((List.range 16).all fun k => byteTrue (48 + k)) = true := by kernel_rfl
end Go.Proofs.YtcjnmmeibppblaaDoor
