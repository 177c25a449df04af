import Derived.Test.YtaadjlpfdajggaaGreatDoorCards
import Derived.Test.YtaadjlpfdajggaaGreatDoorTie
import Derived.Test.YtaadjlpfdajggaaGreatDoorFjMach
import Derived.Test.YtaadjlpfdajggaaGreatDoorFjLaw3
set_option maxRecDepth 100000
namespace Go.Proofs.YtaadjlpfdajggaaGreatDoor
open Go Go.AM Go.ChangeShapes Go.WideShapes Go.ChangeAt Go.RowKit
theorem own:ownKnob Tryz.prog.godebug = none:=by kernel_rfl
theorem gTab : Tryz.prog.globalNamed "math/bits.deBruijn64tab" = some 1 := by kernel_rfl
theorem gTabType:(Tryz.prog.globals[1]?).map (·.type) = some 206:=by kernel_rfl
theorem cells206:Tryz.prog.cellsOf 206 = 64:=by kernel_rfl
theorem cells5:Tryz.prog.cellsOf 5 = 1:=by kernel_rfl
theorem laidOutT:laidOutB Tryz.prog = true:=by kernel_rfl
theorem table {W : World} (h : laidMetH Tryz.prog [("math/bits.deBruijn64tab", Rows.laid_math_bits_deBruijn64tab)] W) : Lib.TabIs Tryz.prog W "math/bits.deBruijn64tab" .u8 tabInts :=
 Lib.tabIs_of_head (rest:=[]) gTab gTabType Tryz.underlying206 Tryz.underlying5 cells5 cells206 h
theorem holdsG {W : World} (h : laidMetH Tryz.prog [("math/bits.deBruijn64tab", Rows.laid_math_bits_deBruijn64tab)] W) : Holds G W := fun b cs hb => by
 have ht:=table h
 match b,hb with
 | 0,hb=>simp [G] at hb
 | 2,hb=>simp [G] at hb
 | 3,hb=>simp [G] at hb
 | 4,hb=>simp [G] at hb
 | n + 5,hb=>simp [G] at hb
 | 1,hb =>
  simp only [G,List.getElem?_cons_succ,List.getElem?_cons_zero,oIq,Blk.tab.injEq] at hb;subst hb;have hc:∀ i,i < tabInts.length -> W.cell? ⟨1,i,none⟩ = some (.int .u8 (tabInts.getD i 0)):=fun i hi=>ht.cell gTab i hi;refine ⟨?_,fun i v hv=>?_⟩
  ·have:=hc 0 (by decide)
   cases ho:W.heap[1]? with
   | none=>simp [World.cell?,ho] at this
   | some o=>exact ⟨o,rfl⟩
  ·rw [List.getElem?_map] at hv;obtain ⟨z,hz,rfl⟩:=oMe.1 hv;have hi:=(lGs.1 hz).1;refine ⟨?_,by simp [flat_eq]⟩;rw [hc i hi];simp [List.getD,hz]
noncomputable def laidWorld (os:Os):World :=
 { World.holding Tryz.prog os ⟨#[],#[],[]⟩ with heap:=(World.holding Tryz.prog os ⟨#[],#[],[]⟩).heap.modify 1 fun
   | .cells _ t frozen=>.cells (tabInts.map (Value.int .u8)).toArray t frozen
   | o=>o }
end Go.Proofs.YtaadjlpfdajggaaGreatDoor
