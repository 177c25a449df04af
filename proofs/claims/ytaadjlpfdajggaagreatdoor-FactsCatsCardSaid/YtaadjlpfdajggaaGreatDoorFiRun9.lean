import Derived.Test.YtaadjlpfdajggaaGreatDoorFiMach
import Derived.Test.YtaadjlpfdajggaaGreatDoorFiAm18
set_option maxRecDepth 1000000
namespace Go.Proofs.YtaadjlpfdajggaaGreatDoor
open Go Go.AM
def fv (w:Int) (o f:Bool) (p:List UInt8):Value:=.agg #[.int .u64 0,.int .u64 w,.int .u64 0,.int .u64 0,.bool o,.bool f,.string ⟨p.toArray⟩]
theorem of1:(callD Mt C.Df 300 G.length 60 [.string ⟨#[97,98,124,97,99]⟩] G).map (fun r=>(r.1,r.2.2)) = some (fv 8589934592 false false [],[]):=by kernel_rfl
theorem of2:(callD Mt C.Df 300 G.length 60 [.string ⟨#[94,97,98]⟩] G).map (fun r=>(r.1,r.2.2)) = some (fv 8589934592 false true [97,98],[]):=by kernel_rfl
theorem of3:(callD Mt C.Df 300 G.length 60 [.string ⟨#[97,63,98]⟩] G).map (fun r=>(r.1,r.2.2)) = some (fv 25769803776 false false [],[]):=by kernel_rfl
theorem of4:(callD Mt C.Df 300 G.length 60 [.string ⟨#[40,63,61,97,41,98,42]⟩] G).map (fun r=>(r.1,r.2.2)) = some (fv 17179869184 true false [],[]):=by kernel_rfl
theorem of5:(callD Mt C.Df 300 G.length 60 [.string ⟨#[40,63,58,97,98,41,123,50,125]⟩] G).map (fun r=>(r.1,r.2.2)) = some (fv 8589934592 false false [97,98],[]):=by kernel_rfl
end Go.Proofs.YtaadjlpfdajggaaGreatDoor
