/-
  LexBytes: the bytes from 192 to 255.
-/
import Derived.Test.YtcjnmmeibppblaaDoorBytes
set_option maxRecDepth 1000000
namespace Go.Proofs.YtcjnmmeibppblaaDoor
open Go Go.AM
theorem b192 : ((List.range 16).all fun k => byteTrue (192 + k)) = true := by kernel_rfl
theorem b208 : ((List.range 16).all fun k => byteTrue (208 + k)) = true := by kernel_rfl
theorem b224 : ((List.range 16).all fun k => byteTrue (224 + k)) = true := by kernel_rfl
theorem b240 : ((List.range 16).all fun k => byteTrue (240 + k)) = true := by kernel_rfl
end Go.Proofs.YtcjnmmeibppblaaDoor
