import Derived.Test.YtaadjlpfdajggaaGreatDoorFjMach
import Derived.Test.YtaadjlpfdajggaaGreatDoorFjAm18
set_option maxRecDepth 1000000
namespace Go.Proofs.YtaadjlpfdajggaaGreatDoor
open Go Go.AM
def fv (w:Int) (o f:Bool) (p:List UInt8):Value:=.agg #[.int .u64 0,.int .u64 w,.int .u64 0,.int .u64 0,.bool o,.bool f,.string ⟨p.toArray⟩]
theorem of1:(callD Mt C.Df 300 G.length 60 [.string ⟨#[97,98,124,97,99]⟩] G).map (fun r=>(r.1,r.2.2)) = some (fv 8589934592 false false [],[]):=by kernel_rfl
theorem of2:(callD Mt C.Df 300 G.length 60 [.string ⟨#[94,97,98]⟩] G).map (fun r=>(r.1,r.2.2)) = some (fv 8589934592 false true [97,98],[]):=by kernel_rfl
theorem of3:(callD Mt C.Df 300 G.length 60 [.string ⟨#[97,63,98]⟩] G).map (fun r=>(r.1,r.2.2)) = some (fv 25769803776 false false [],[]):=by kernel_rfl
theorem of4:(callD Mt C.Df 300 G.length 60 [.string ⟨#[40,63,61,97,41,98,42]⟩] G).map (fun r=>(r.1,r.2.2)) = some (fv 17179869184 true false [],[]):=by kernel_rfl
theorem of5:(callD Mt C.Df 300 G.length 60 [.string ⟨#[40,63,58,97,98,41,123,50,125]⟩] G).map (fun r=>(r.1,r.2.2)) = some (fv 8589934592 false false [97,98],[]):=by kernel_rfl
end Go.Proofs.YtaadjlpfdajggaaGreatDoor

set_option maxRecDepth 1000000
namespace Go.Proofs.YtaadjlpfdajggaaGreatDoor
open Go Go.AM
def ofF:List Value -> Option Value
 | [.string s] =>
  match s.data.toList with
  | [97,98,124,97,99]=>some (fv 8589934592 false false [])
  | [94,97,98]=>some (fv 8589934592 false true [97,98])
  | [97,63,98]=>some (fv 25769803776 false false [])
  | [40,63,61,97,41,98,42]=>some (fv 17179869184 true false [])
  | [40,63,58,97,98,41,123,50,125]=>some (fv 8589934592 false false [97,98])
  | _=>none
 | _=>none
theorem fv_flat {w:Int} {o f:Bool} {p:List UInt8}:flat (fv w o f p) = true:=by
 rw [flat_eq];simp [fv]
theorem ofF_ok:CallOk Mt (flatC chk 60 ofF):=flatC_ok (callD_ok okM C.okD 300) base (pb rfl) fun args v hv=>by
 have key:∀ s w o f p,(callD Mt C.Df 300 G.length 60 [.string s] G).map (fun r=>(r.1,r.2.2)) = some (fv w o f p,[]) -> v = fv w o f p -> (∀ a ∈ [Value.string s],flat a = true) /\ flat v = true /\ ∃ H' d,callD Mt C.Df 300 G.length 60 [.string s] G = some (v,H',d):=fun s w o f p hr hv=>by
  subst hv;refine ⟨by simp [flat_eq],fv_flat,?_⟩
  cases hx:callD Mt C.Df 300 G.length 60 [.string s] G with
  | none=>rw [hx] at hr; cases hr
  | some r =>
   rw [hx] at hr;simp only [oMs,oIq,pIq] at hr;exact ⟨r.2.1,r.2.2,by rw [<- hr.1]⟩
 unfold ofF at hv
 split at hv
 case h_2=>cases hv
 rename_i s
 obtain ⟨⟨s⟩⟩:=s;simp only at hv
 split at hv
 ·exact key _ _ _ _ _ of1 (oIj hv).symm
 ·exact key _ _ _ _ _ of2 (oIj hv).symm
 ·exact key _ _ _ _ _ of3 (oIj hv).symm
 ·exact key _ _ _ _ _ of4 (oIj hv).symm
 ·exact key _ _ _ _ _ of5 (oIj hv).symm
 ·cases hv
noncomputable def callX:CallF:=bodyC Mt (orC (flatC chk 60 ofF) (callD Mt C.Df 300)) 300
theorem callX_ok:CallOk Mt callX:=bodyC_ok okM (orC_ok ofF_ok (callD_ok okM C.okD 300))
theorem fixed9:(callX G.length 29 [] G).map (fun r=>(r.1,r.2.2)) = some (.bool true,[]):=by kernel_rfl
theorem chk_of {H:Hp} (h:H[1]? = some (.tab (tabInts.map (Value.int .u8)))):chk H = true:=by
 match H,h with
 | [],h=>simp at h
 | [_],h=>simp at h
 | _ :: b :: r,h =>
  simp only [List.getElem?_cons_succ,List.getElem?_cons_zero,oIq] at h;subst h;show tabEq .u8 (tabInts.map (Value.int .u8)) tabInts = true;rfl
def onlyTrue (args:List Value):Option Value:=if args.isEmpty then some (.bool true) else none
theorem closedC {f:FuncId} {c:CallF} (hc0:CallOk Mt c) (hf:f < PB) (hr:(c G.length f [] G).map (fun r=>(r.1,r.2.2)) = some (.bool true,[])) :
  ∀ ro H,H[1]? = some (.tab (tabInts.map (Value.int .u8))) -> ro <= H.length -> PtE Mt ro f [] H (.bool true) H []:=fun ro H h hro=>by
 have hc:CallOk Mt (flatC chk f onlyTrue):=flatC_ok hc0 base hf fun args v hv=>by
  unfold onlyTrue at hv
  split at hv
  case isFalse=>cases hv
  rename_i ha
  injection hv with hv; subst hv
  have ha:args = []:=by simpa using ha
  subst ha;refine ⟨by simp,by simp [flat_eq],?_⟩
  cases hx:c G.length f [] G with
  | none=>rw [hx] at hr; cases hr
  | some r =>
   rw [hx] at hr;simp only [oMs,oIq,pIq] at hr;exact ⟨r.2.1,r.2.2,by rw [<- hr.1]⟩
 exact hc ro f [] H (.bool true) H [] (by simp only [flatC,if_true,chk_of h]; rfl) hro
theorem closed29:∀ ro H,H[1]? = some (.tab (tabInts.map (Value.int .u8))) -> ro <= H.length -> PtE Mt ro 29 [] H (.bool true) H []:=closedC callX_ok (pb rfl) fixed9
end Go.Proofs.YtaadjlpfdajggaaGreatDoor
