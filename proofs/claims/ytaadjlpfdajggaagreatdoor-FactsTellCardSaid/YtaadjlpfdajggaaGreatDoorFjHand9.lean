import Derived.Test.YtaadjlpfdajggaaGreatDoorFjBase
import Derived.Test.YtaadjlpfdajggaaGreatDoorFjAm26
set_option maxRecDepth 1000000
set_option linter.unusedVariables false
set_option linter.unusedSimpArgs false
namespace Go.Proofs.YtaadjlpfdajggaaGreatDoor
open Go Go.AM
def G0:Hp:=[.dead,.dead,.dead,.dead,.dead]
theorem base0:Base Tryz.prog (fun _=>true) G0 where
 size:=by kernel_rfl
 chk:=fun H _ b cs hb=>by
  match b,hb with
  | 0,hb=>simp [G0] at hb
  | 1,hb=>simp [G0] at hb
  | 2,hb=>simp [G0] at hb
  | 3,hb=>simp [G0] at hb
  | 4,hb=>simp [G0] at hb
  | n + 5,hb=>simp [G0] at hb
 kind:=fun b k hb=>by
  match b,hb with
  | 0,hb=>simp [G0] at hb; exact .inl hb.symm
  | 1,hb=>simp [G0] at hb; exact .inl hb.symm
  | 2,hb=>simp [G0] at hb; exact .inl hb.symm
  | 3,hb=>simp [G0] at hb; exact .inl hb.symm
  | 4,hb=>simp [G0] at hb; exact .inl hb.symm
  | n + 5,hb=>simp [G0] at hb
theorem run_of {f:FuncId} {args:List Value} {v:Value} (h:(callN Mt 3 G0.length f args G0).map (fun r=>(r.1,r.2.2)) = some (v,[])):∃ H' d,callN Mt 3 G0.length f args G0 = some (v,H',d):=by
 cases hx:callN Mt 3 G0.length f args G0 with
 | none=>rw [hx] at h; cases h
 | some r =>
  rw [hx] at h;simp only [oMs,oIq,pIq] at h;exact ⟨r.2.1,r.2.2,by rw [<- h.1]⟩
theorem own_run (k a b:Int) (w0 w1 w2 w3:Int) (mn mx md n:Int) (fo:Bool):(callN Mt 3 G0.length 125 [vAgg (S_c.c ⟨k,a,b,⟨⟨[w0,w1,w2,w3],rfl⟩⟩,mn,mx,md,n,fo⟩)] G0).map (fun r=>(r.1,r.2.2)) =
  some (vAgg (S_c.c (ownS ⟨k,a,b,⟨⟨[w0,w1,w2,w3],rfl⟩⟩,mn,mx,md,n,fo⟩)),[]):=by
 cases k with
 | negSucc m=>revert m; intro m; kernel_rfl
 | ofNat m=>rcases m with _ | _ | _ | _ | _ | _ | _ | _ | _ | _ | _ | _ | _ | m <;> kernel_rfl
theorem hand125:∀ ro H (x0:S_c),ro <= H.length -> PtE Mt ro 125 [(vAgg (S_c.c x0))] H (vAgg (S_c.c (ownS x0))) H []:=fun ro H x0 hro=>by
 obtain ⟨k,a,b,⟨⟨l,hl⟩⟩,mn,mx,md,n,fo⟩:=x0
 match l,hl with
 | [w0,w1,w2,w3],hl =>
  obtain ⟨H',d,hr⟩:=run_of (own_run k a b w0 w1 w2 w3 mn mx md n fo);exact pt_flat (callN_ok okM 3) base0 rfl (pb rfl) (fm_cons (flat_agg S_c.enc _) fm_nil) (flat_agg S_c.enc _) hr hro
end Go.Proofs.YtaadjlpfdajggaaGreatDoor
