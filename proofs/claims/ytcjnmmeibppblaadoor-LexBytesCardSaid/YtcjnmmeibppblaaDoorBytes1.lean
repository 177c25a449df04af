/-
  LexBytes: the bytes from 64 to 127.
-/
import Derived.Test.YtcjnmmeibppblaaDoorBytes
set_option maxRecDepth 1000000
namespace Go.Proofs.YtcjnmmeibppblaaDoor
open Go Go.AM
theorem b64 : ((List.range 16).all fun k => byteTrue (64 + k)) = true := by kernel_rfl
theorem b80 : ((List.range 16).all fun k => byteTrue (80 + k)) = true := by kernel_rfl
theorem b96 : ((List.range 16).all fun k => byteTrue (96 + k)) = true := by kernel_rfl
theorem b112 : ((List.range 16).all fun k => byteTrue (112 + k)) = true := by kernel_rfl
end Go.Proofs.YtcjnmmeibppblaaDoor
