import Derived.Test.YtcjnmmeibppblaaDoorCards
import Derived.Test.YtcjnmmeibppblaaDoorTie
import Derived.Test.YtcjnmmeibppblaaDoorTeMach
import Derived.Test.YtcjnmmeibppblaaDoorTeLaw
set_option maxRecDepth 100000
namespace Go.Proofs.YtcjnmmeibppblaaDoor
open Go Go.AM Go.ChangeShapes Go.WideShapes Go.ChangeAt Go.RowKit
theorem own:ownKnob Tryd.prog.godebug = none:=by kernel_rfl
theorem gTab : Tryd.prog.globalNamed "math/bits.deBruijn64tab" = some 0 := by kernel_rfl
theorem gTabType:(Tryd.prog.globals[0]?).map (·.type) = some 100:=by kernel_rfl
theorem cells100:Tryd.prog.cellsOf 100 = 64:=by kernel_rfl
theorem cells5:Tryd.prog.cellsOf 5 = 1:=by kernel_rfl
theorem laidOutT:laidOutB Tryd.prog = true:=by kernel_rfl
theorem table {W : World} (h : laidMetH Tryd.prog [("math/bits.deBruijn64tab", Rows.laid_math_bits_deBruijn64tab)] W) : Lib.TabIs Tryd.prog W "math/bits.deBruijn64tab" .u8 tabInts :=
 Lib.tabIs_of_head (rest:=[]) gTab gTabType Tryd.underlying100 Tryd.underlying5 cells5 cells100 h
theorem holdsG {W : World} (h : laidMetH Tryd.prog [("math/bits.deBruijn64tab", Rows.laid_math_bits_deBruijn64tab)] W) : Holds G W := fun b cs hb => by
 have ht:=table h
 match b,hb with
 | 1,hb=>simp [G] at hb
 | n + 2,hb=>simp [G] at hb
 | 0,hb =>
  simp only [G,List.getElem?_cons_zero,Option.some.injEq,Blk.tab.injEq] at hb
  subst hb
  have hc:∀ i,i < tabInts.length → W.cell? ⟨0,i,none⟩ = some (.int .u8 (tabInts.getD i 0)):=fun i hi=>ht.cell gTab i hi
  refine ⟨?_,fun i v hv=>?_⟩
  ·have:=hc 0 (by decide)
   cases ho:W.heap[0]? with
   | none=>simp [World.cell?,ho] at this
   | some o=>exact ⟨o,rfl⟩
  ·rw [List.getElem?_map] at hv
   obtain ⟨z,hz,rfl⟩:=Option.map_eq_some_iff.1 hv
   have hi:=(List.getElem?_eq_some_iff.1 hz).1
   refine ⟨?_,by simp [flat_eq]⟩
   rw [hc i hi]
   simp [List.getD,hz]
noncomputable def laidWorld (os:Os):World :=
 { World.holding Tryd.prog os ⟨#[],#[],[]⟩ with heap:=(World.holding Tryd.prog os ⟨#[],#[],[]⟩).heap.modify 0 fun
   | .cells _ t frozen=>.cells (tabInts.map (Value.int .u8)).toArray t frozen
   | o=>o }
end Go.Proofs.YtcjnmmeibppblaaDoor
