import Derived.Test.YtaadjlpfdajggaaGreatDoorFjConv
import Derived.Test.YtaadjlpfdajggaaGreatDoorFjAm24
import Derived.Test.YtaadjlpfdajggaaGreatDoorFjAm13
import Derived.Laws.StandIn
import Derived.Lib.Bytealg
set_option maxRecDepth 100000
namespace Go.Proofs.YtaadjlpfdajggaaGreatDoor
open Go Go.AM
def xIndexByte:List Value -> Option Value
 | [.string s,.int .u8 c]=>some (.int .i64 (Lib.indexByte s.data.toList c.toNat.toUInt8))
 | _=>none
def xFromBits:List Value -> Option Value
 | [.int .u64 n]=>some (.float .f64 n.toNat)
 | _=>none
def xBits:List Value -> Option Value
 | [.float .f64 b]=>some (.int .u64 b)
 | _=>none
def X:FuncId -> Option (List Value -> Option Value)
 | 167=>some xIndexByte
 | 85=>some xFromBits
 | 119=>some xBits
 | _=>none
noncomputable def Mt:Mach:=⟨Tryz.prog,C.F,X⟩
theorem okM:MachOk Mt where
 F:=C.okF
 mix:=by kernel_rfl
 small:=nLb (by kernel_rfl)
 X:=fun g ex args v hg he hfl w=>by
  change X g = some ex at hg;unfold X at hg
  split at hg
  ·injection hg with hg; subst hg
   unfold xIndexByte at he
   split at he
   ·rename_i s c
    injection he with he; subst he
    change (callFunc 167 _).run Tryz.prog w = _;rw [run_callFunc_indexByte Tryz.func167 (by kernel_rfl) (by kernel_rfl) (by kernel_rfl) (by kernel_rfl)];change ((Extern.BytealgIndexByte.indexByte #[.string s,.int .u8 c]).run Tryz.prog w).andThen _ = _;rw [Lib.run_indexByteString];rfl
   ·cases he
  ·injection hg with hg; subst hg
   unfold xFromBits at he
   split at he
   ·rename_i n
    injection he with he; subst he
    change (callFunc 85 _).run Tryz.prog w = _;rw [run_callFunc_extern Tryz.func85 (by kernel_rfl) (by kernel_rfl) (by kernel_rfl) (show Extern.find Tryz.f85 = some Extern.MathFloatBits.float64frombits by kernel_rfl)];rfl
   ·cases he
  ·injection hg with hg; subst hg
   unfold xBits at he
   split at he
   ·rename_i n
    injection he with he; subst he
    change (callFunc 119 _).run Tryz.prog w = _;rw [run_callFunc_extern Tryz.func119 (by kernel_rfl) (by kernel_rfl) (by kernel_rfl) (show Extern.find Tryz.f119 = some Extern.MathFloatBits.float64bits by kernel_rfl)];rfl
   ·cases he
  ·cases hg
def tabInts:List Int:=[0,1,56,2,57,49,28,3,61,58,42,50,38,29,17,4,62,47,59,36,45,43,51,22,53,39,33,30,24,18,12,5,63,55,48,27,60,41,37,16,46,35,44,21,52,32,23,11,54,26,40,15,34,20,31,10,25,14,19,9,13,8,7,6]
def G:Hp:=[.dead,.tab (tabInts.map (Value.int .u8)),.dead,.dead,.dead]
def chk (H:Hp):Bool :=
 match H with
 | _ :: .tab cs :: _=>tabEq .u8 cs tabInts
 | _=>false
theorem base:Base Tryz.prog chk G where
 size:=by kernel_rfl
 chk:=fun H h b cs hb=>by
  unfold chk at h
  split at h
  case h_2=>cases h
  have:=tabEq_eq h
  subst this
  match b,hb with
  | 0,hb=>simp [G] at hb
  | 1,hb=>simpa [G] using hb
  | 2,hb=>simp [G] at hb
  | 3,hb=>simp [G] at hb
  | 4,hb=>simp [G] at hb
  | n + 5,hb=>simp [G] at hb
 kind:=fun b k hb=>by
  match b,hb with
  | 0,hb=>simp [G] at hb; exact .inl hb.symm
  | 1,hb=>simp [G] at hb; exact .inr ⟨_,hb.symm⟩
  | 2,hb=>simp [G] at hb; exact .inl hb.symm
  | 3,hb=>simp [G] at hb; exact .inl hb.symm
  | 4,hb=>simp [G] at hb; exact .inl hb.symm
  | n + 5,hb=>simp [G] at hb
end Go.Proofs.YtaadjlpfdajggaaGreatDoor
