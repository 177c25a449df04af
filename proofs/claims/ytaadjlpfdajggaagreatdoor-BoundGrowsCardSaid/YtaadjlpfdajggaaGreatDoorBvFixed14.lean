import Derived.Test.YtaadjlpfdajggaaGreatDoorBvMach
import Derived.Test.YtaadjlpfdajggaaGreatDoorBvAm18
import Derived.Test.YtaadjlpfdajggaaGreatDoorBvAm28
set_option maxRecDepth 1000000
namespace Go.Proofs.YtaadjlpfdajggaaGreatDoor
open Go Go.AM
def nB:List Value:=[.int .i64 1,.int .i64 0,.int .i64 0,.int .u64 0,.int .u64 8589934592,.int .u64 0,.int .u64 0,.int .i64 0,.int .i64 0,.int .i64 0,.int .i64 0,.bool false]
def nR (a m:Int):List Value:=[.int .i64 10,.int .i64 a,.int .i64 0,.int .u64 0,.int .u64 0,.int .u64 0,.int .u64 0,.int .i64 0,.int .i64 m,.int .i64 0,.int .i64 0,.bool false]
def tV (b n:Nat):Value:=.agg #[.slice (some ⟨b,0,none⟩) n 0]
def tA (b n:Nat):Value:=.tuple #[tV b n,.int .i64 0]
def strA:ByteArray:=⟨#[97]⟩
def strB:ByteArray:=⟨#[97,42]⟩
def strC:ByteArray:=⟨#[40,63,58,40,63,58,97,123,48,44,49,48,48,125,41,123,48,44,49,48,48,125,41,123,48,44,49,48,48,125]⟩
def A1:Hp:=G ++ [.cells nB 72]
def A2:Hp:=A1 ++ [.cells [.slice (some ⟨5,0,none⟩) 1 0] 37]
def B1:Hp:=A2 ++ [.cells (nB ++ nR 0 (-1)) 72]
def B2:Hp:=B1 ++ [.cells [.slice (some ⟨7,0,none⟩) 2 0] 37]
def C1:Hp:=B2 ++ [.cells (nB ++ nR 0 100 ++ nR 1 100 ++ nR 2 100) 72]
def C2:Hp:=C1 ++ [.cells [.slice (some ⟨9,0,none⟩) 4 0] 37]
theorem q1:callD Mt C.Df 300 5 41 [.string strA] G = some (tA 5 1,A1,[]):=by kernel_rfl
theorem q2:callD Mt C.Df 300 5 41 [.string strB] A2 = some (tA 7 2,B1,[]):=by kernel_rfl
theorem q3:callD Mt C.Df 300 5 41 [.string strC] B2 = some (tA 9 4,C1,[]):=by kernel_rfl
theorem q4:callD Mt C.Df 3000 5 22 [tV 9 4,.int .i64 100] C2 = some (.tuple #[.float .f64 9218868437227405312,.int .i64 0],C2,[]):=by kernel_rfl
end Go.Proofs.YtaadjlpfdajggaaGreatDoor

set_option maxRecDepth 1000000
namespace Go.Proofs.YtaadjlpfdajggaaGreatDoor
open Go Go.AM
theorem chk_of {H:Hp} (h:H[1]? = some (.tab (tabInts.map (Value.int .u8)))):chk H = true:=by
 match H,h with
 | [],h=>simp at h
 | [_],h=>simp at h
 | _ :: b :: r,h =>
  simp only [List.getElem?_cons_succ,List.getElem?_cons_zero,Option.some.injEq] at h
  subst h
  show tabEq .u8 (tabInts.map (Value.int .u8)) tabInts = true
  rfl
def onlyTrue (args:List Value):Option Value:=if args.isEmpty then some (.bool true) else none
theorem closedC {f:FuncId} {c:CallF} (hc0:CallOk Mt c) (hf:f < PB) (hr:(c G.length f [] G).map (fun r=>(r.1,r.2.2)) = some (.bool true,[])) :
  ∀ ro H,H[1]? = some (.tab (tabInts.map (Value.int .u8))) → ro ≤ H.length → PtE Mt ro f [] H (.bool true) H []:=fun ro H h hro=>by
 have hc:CallOk Mt (flatC chk f onlyTrue):=flatC_ok hc0 base hf fun args v hv=>by
  unfold onlyTrue at hv
  split at hv
  case isFalse=>cases hv
  rename_i ha
  injection hv with hv; subst hv
  have ha:args = []:=by simpa using ha
  subst ha
  refine ⟨by simp,by simp [flat_eq],?_⟩
  cases hx:c G.length f [] G with
  | none=>rw [hx] at hr; cases hr
  | some r =>
   rw [hx] at hr
   simp only [Option.map_some,Option.some.injEq,Prod.mk.injEq] at hr
   exact ⟨r.2.1,r.2.2,by rw [← hr.1]⟩
 exact hc ro f [] H (.bool true) H [] (by simp only [flatC,if_true,chk_of h]; rfl) hro
end Go.Proofs.YtaadjlpfdajggaaGreatDoor

set_option maxRecDepth 1000000
namespace Go.Proofs.YtaadjlpfdajggaaGreatDoor
open Go Go.AM
noncomputable def callX:CallF:=bodyC Mt (orC (pinC 5 41 [.string strA] G (tA 5 1,A1,[])) (orC (pinC 5 41 [.string strB] A2 (tA 7 2,B1,[])) (orC (pinC 5 41 [.string strC] B2 (tA 9 4,C1,[]))
 (orC (pinC 5 22 [tV 9 4,.int .i64 100] C2 (.tuple #[.float .f64 9218868437227405312,.int .i64 0],C2,[])) (callD Mt C.Df 300))))) 300
theorem callX_ok:CallOk Mt callX:=bodyC_ok okM (orC_ok (pinC_ok (callD_ok okM C.okD 300) q1) (orC_ok (pinC_ok (callD_ok okM C.okD 300) q2) (orC_ok (pinC_ok (callD_ok okM C.okD 300) q3)
 (orC_ok (pinC_ok (callD_ok okM C.okD 3000) q4) (callD_ok okM C.okD 300)))))
theorem fixed14:(callX G.length 25 [] G).map (fun r=>(r.1,r.2.2)) = some (.bool true,[]):=by kernel_rfl
theorem closed25:∀ ro H,H[1]? = some (.tab (tabInts.map (Value.int .u8))) → ro ≤ H.length → PtE Mt ro 25 [] H (.bool true) H []:=closedC callX_ok (pb rfl) fixed14
end Go.Proofs.YtaadjlpfdajggaaGreatDoor
