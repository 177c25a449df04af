/-
  LexBytes: the bytes from 128 to 191.
-/
import Derived.Test.YtcjnmmeibppblaaDoorBytes
set_option maxRecDepth 1000000
namespace Go.Proofs.YtcjnmmeibppblaaDoor
open Go Go.AM
theorem b128 : ((List.range 16).all fun k => byteTrue (128 + k)) = true := by kernel_rfl
theorem b144 : ((List.range 16).all fun k => byteTrue (144 + k)) = true := by kernel_rfl
theorem b160 : ((List.range 16).all fun k => byteTrue (160 + k)) = true := by kernel_rfl
theorem b176 : ((List.range 16).all fun k => byteTrue (176 + k)) = true := by kernel_rfl
end Go.Proofs.YtcjnmmeibppblaaDoor
