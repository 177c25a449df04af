import Derived.Test.YtcjnmmeibppblaaDoorProg
import Derived.Test.YtcjnmmeibppblaaDoorTeCode
import Derived.Test.YtcjnmmeibppblaaDoorTeAm12
set_option maxRecDepth 100000
namespace Go.Proofs.YtcjnmmeibppblaaDoor.C
open Go Go.AM
theorem ok3:FunOk Tryd.prog 3 f3:=⟨Tryd.f3,_,f3.body,Tryd.func3,by kernel_rfl,rfl,rfl,rfl,by kernel_rfl⟩
theorem ok10:FunOk Tryd.prog 10 f10:=⟨Tryd.f10,_,f10.body,Tryd.func10,by kernel_rfl,rfl,rfl,rfl,by kernel_rfl⟩
theorem ok11:FunOk Tryd.prog 11 f11:=⟨Tryd.f11,_,f11.body,Tryd.func11,by kernel_rfl,rfl,rfl,rfl,by kernel_rfl⟩
theorem ok12:FunOk Tryd.prog 12 f12:=⟨Tryd.f12,_,f12.body,Tryd.func12,by kernel_rfl,rfl,rfl,rfl,by kernel_rfl⟩
theorem ok13:FunOk Tryd.prog 13 f13:=⟨Tryd.f13,_,f13.body,Tryd.func13,by kernel_rfl,rfl,rfl,rfl,by kernel_rfl⟩
theorem ok14:FunOk Tryd.prog 14 f14:=⟨Tryd.f14,_,f14.body,Tryd.func14,by kernel_rfl,rfl,rfl,rfl,by kernel_rfl⟩
theorem ok15:FunOk Tryd.prog 15 f15:=⟨Tryd.f15,_,f15.body,Tryd.func15,by kernel_rfl,rfl,rfl,rfl,by kernel_rfl⟩
theorem ok16:FunOk Tryd.prog 16 f16:=⟨Tryd.f16,_,f16.body,Tryd.func16,by kernel_rfl,rfl,rfl,rfl,by kernel_rfl⟩
theorem ok17:FunOk Tryd.prog 17 f17:=⟨Tryd.f17,_,f17.body,Tryd.func17,by kernel_rfl,rfl,rfl,rfl,by kernel_rfl⟩
theorem ok18:FunOk Tryd.prog 18 f18:=⟨Tryd.f18,_,f18.body,Tryd.func18,by kernel_rfl,rfl,rfl,rfl,by kernel_rfl⟩
theorem ok19:FunOk Tryd.prog 19 f19:=⟨Tryd.f19,_,f19.body,Tryd.func19,by kernel_rfl,rfl,rfl,rfl,by kernel_rfl⟩
theorem ok20:FunOk Tryd.prog 20 f20:=⟨Tryd.f20,_,f20.body,Tryd.func20,by kernel_rfl,rfl,rfl,rfl,by kernel_rfl⟩
theorem ok21:FunOk Tryd.prog 21 f21:=⟨Tryd.f21,_,f21.body,Tryd.func21,by kernel_rfl,rfl,rfl,rfl,by kernel_rfl⟩
theorem ok23:FunOk Tryd.prog 23 f23:=⟨Tryd.f23,_,f23.body,Tryd.func23,by kernel_rfl,rfl,rfl,rfl,by kernel_rfl⟩
theorem ok24:FunOk Tryd.prog 24 f24:=⟨Tryd.f24,_,f24.body,Tryd.func24,by kernel_rfl,rfl,rfl,rfl,by kernel_rfl⟩
theorem ok25:FunOk Tryd.prog 25 f25:=⟨Tryd.f25,_,f25.body,Tryd.func25,by kernel_rfl,rfl,rfl,rfl,by kernel_rfl⟩
theorem ok26:FunOk Tryd.prog 26 f26:=⟨Tryd.f26,_,f26.body,Tryd.func26,by kernel_rfl,rfl,rfl,rfl,by kernel_rfl⟩
theorem ok27:FunOk Tryd.prog 27 f27:=⟨Tryd.f27,_,f27.body,Tryd.func27,by kernel_rfl,rfl,rfl,rfl,by kernel_rfl⟩
theorem ok28:FunOk Tryd.prog 28 f28:=⟨Tryd.f28,_,f28.body,Tryd.func28,by kernel_rfl,rfl,rfl,rfl,by kernel_rfl⟩
theorem ok29:FunOk Tryd.prog 29 f29:=⟨Tryd.f29,_,f29.body,Tryd.func29,by kernel_rfl,rfl,rfl,rfl,by kernel_rfl⟩
theorem ok30:FunOk Tryd.prog 30 f30:=⟨Tryd.f30,_,f30.body,Tryd.func30,by kernel_rfl,rfl,rfl,rfl,by kernel_rfl⟩
theorem ok31:FunOk Tryd.prog 31 f31:=⟨Tryd.f31,_,f31.body,Tryd.func31,by kernel_rfl,rfl,rfl,rfl,by kernel_rfl⟩
theorem ok32:FunOk Tryd.prog 32 f32:=⟨Tryd.f32,_,f32.body,Tryd.func32,by kernel_rfl,rfl,rfl,rfl,by kernel_rfl⟩
theorem ok33:FunOk Tryd.prog 33 f33:=⟨Tryd.f33,_,f33.body,Tryd.func33,by kernel_rfl,rfl,rfl,rfl,by kernel_rfl⟩
theorem ok34:FunOk Tryd.prog 34 f34:=⟨Tryd.f34,_,f34.body,Tryd.func34,by kernel_rfl,rfl,rfl,rfl,by kernel_rfl⟩
theorem ok35:FunOk Tryd.prog 35 f35:=⟨Tryd.f35,_,f35.body,Tryd.func35,by kernel_rfl,rfl,rfl,rfl,by kernel_rfl⟩
theorem ok36:FunOk Tryd.prog 36 f36:=⟨Tryd.f36,_,f36.body,Tryd.func36,by kernel_rfl,rfl,rfl,rfl,by kernel_rfl⟩
theorem ok37:FunOk Tryd.prog 37 f37:=⟨Tryd.f37,_,f37.body,Tryd.func37,by kernel_rfl,rfl,rfl,rfl,by kernel_rfl⟩
theorem ok38:FunOk Tryd.prog 38 f38:=⟨Tryd.f38,_,f38.body,Tryd.func38,by kernel_rfl,rfl,rfl,rfl,by kernel_rfl⟩
theorem ok39:FunOk Tryd.prog 39 f39:=⟨Tryd.f39,_,f39.body,Tryd.func39,by kernel_rfl,rfl,rfl,rfl,by kernel_rfl⟩
theorem ok40:FunOk Tryd.prog 40 f40:=⟨Tryd.f40,_,f40.body,Tryd.func40,by kernel_rfl,rfl,rfl,rfl,by kernel_rfl⟩
theorem ok41:FunOk Tryd.prog 41 f41:=⟨Tryd.f41,_,f41.body,Tryd.func41,by kernel_rfl,rfl,rfl,rfl,by kernel_rfl⟩
theorem ok42:FunOk Tryd.prog 42 f42:=⟨Tryd.f42,_,f42.body,Tryd.func42,by kernel_rfl,rfl,rfl,rfl,by kernel_rfl⟩
theorem ok43:FunOk Tryd.prog 43 f43:=⟨Tryd.f43,_,f43.body,Tryd.func43,by kernel_rfl,rfl,rfl,rfl,by kernel_rfl⟩
theorem ok44:FunOk Tryd.prog 44 f44:=⟨Tryd.f44,_,f44.body,Tryd.func44,by kernel_rfl,rfl,rfl,rfl,by kernel_rfl⟩
theorem ok45:FunOk Tryd.prog 45 f45:=⟨Tryd.f45,_,f45.body,Tryd.func45,by kernel_rfl,rfl,rfl,rfl,by kernel_rfl⟩
theorem ok46:FunOk Tryd.prog 46 f46:=⟨Tryd.f46,_,f46.body,Tryd.func46,by kernel_rfl,rfl,rfl,rfl,by kernel_rfl⟩
theorem ok47:FunOk Tryd.prog 47 f47:=⟨Tryd.f47,_,f47.body,Tryd.func47,by kernel_rfl,rfl,rfl,rfl,by kernel_rfl⟩
theorem ok48:FunOk Tryd.prog 48 f48:=⟨Tryd.f48,_,f48.body,Tryd.func48,by kernel_rfl,rfl,rfl,rfl,by kernel_rfl⟩
theorem ok49:FunOk Tryd.prog 49 f49:=⟨Tryd.f49,_,f49.body,Tryd.func49,by kernel_rfl,rfl,rfl,rfl,by kernel_rfl⟩
theorem ok50:FunOk Tryd.prog 50 f50:=⟨Tryd.f50,_,f50.body,Tryd.func50,by kernel_rfl,rfl,rfl,rfl,by kernel_rfl⟩
theorem ok51:FunOk Tryd.prog 51 f51:=⟨Tryd.f51,_,f51.body,Tryd.func51,by kernel_rfl,rfl,rfl,rfl,by kernel_rfl⟩
theorem ok52:FunOk Tryd.prog 52 f52:=⟨Tryd.f52,_,f52.body,Tryd.func52,by kernel_rfl,rfl,rfl,rfl,by kernel_rfl⟩
theorem ok53:FunOk Tryd.prog 53 f53:=⟨Tryd.f53,_,f53.body,Tryd.func53,by kernel_rfl,rfl,rfl,rfl,by kernel_rfl⟩
theorem ok54:FunOk Tryd.prog 54 f54:=⟨Tryd.f54,_,f54.body,Tryd.func54,by kernel_rfl,rfl,rfl,rfl,by kernel_rfl⟩
theorem ok55:FunOk Tryd.prog 55 f55:=⟨Tryd.f55,_,f55.body,Tryd.func55,by kernel_rfl,rfl,rfl,rfl,by kernel_rfl⟩
theorem ok56:FunOk Tryd.prog 56 f56:=⟨Tryd.f56,_,f56.body,Tryd.func56,by kernel_rfl,rfl,rfl,rfl,by kernel_rfl⟩
theorem ok57:FunOk Tryd.prog 57 f57:=⟨Tryd.f57,_,f57.body,Tryd.func57,by kernel_rfl,rfl,rfl,rfl,by kernel_rfl⟩
theorem ok58:FunOk Tryd.prog 58 f58:=⟨Tryd.f58,_,f58.body,Tryd.func58,by kernel_rfl,rfl,rfl,rfl,by kernel_rfl⟩
theorem ok59:FunOk Tryd.prog 59 f59:=⟨Tryd.f59,_,f59.body,Tryd.func59,by kernel_rfl,rfl,rfl,rfl,by kernel_rfl⟩
theorem ok60:FunOk Tryd.prog 60 f60:=⟨Tryd.f60,_,f60.body,Tryd.func60,by kernel_rfl,rfl,rfl,rfl,by kernel_rfl⟩
theorem ok61:FunOk Tryd.prog 61 f61:=⟨Tryd.f61,_,f61.body,Tryd.func61,by kernel_rfl,rfl,rfl,rfl,by kernel_rfl⟩
theorem ok62:FunOk Tryd.prog 62 f62:=⟨Tryd.f62,_,f62.body,Tryd.func62,by kernel_rfl,rfl,rfl,rfl,by kernel_rfl⟩
theorem ok63:FunOk Tryd.prog 63 f63:=⟨Tryd.f63,_,f63.body,Tryd.func63,by kernel_rfl,rfl,rfl,rfl,by kernel_rfl⟩
theorem ok64:FunOk Tryd.prog 64 f64:=⟨Tryd.f64,_,f64.body,Tryd.func64,by kernel_rfl,rfl,rfl,rfl,by kernel_rfl⟩
theorem ok65:FunOk Tryd.prog 65 f65:=⟨Tryd.f65,_,f65.body,Tryd.func65,by kernel_rfl,rfl,rfl,rfl,by kernel_rfl⟩
theorem ok66:FunOk Tryd.prog 66 f66:=⟨Tryd.f66,_,f66.body,Tryd.func66,by kernel_rfl,rfl,rfl,rfl,by kernel_rfl⟩
theorem okF:∀ g af,F g = some af → FunOk Tryd.prog g af:=fun g af h=>by
 unfold F at h
 split at h <;> first | (injection h with h; subst h; first | exact ok3 | exact ok10 | exact ok11 | exact ok12 | exact ok13 | exact ok14 | exact ok15 | exact ok16 | exact ok17 | exact ok18 | exact ok19 | exact ok20 | exact ok21 | exact ok23 | exact ok24 | exact ok25 | exact ok26 | exact ok27 | exact ok28 | exact ok29 | exact ok30 | exact ok31 | exact ok32 | exact ok33 | exact ok34 | exact ok35 | exact ok36 | exact ok37 | exact ok38 | exact ok39 | exact ok40 | exact ok41 | exact ok42 | exact ok43 | exact ok44 | exact ok45 | exact ok46 | exact ok47 | exact ok48 | exact ok49 | exact ok50 | exact ok51 | exact ok52 | exact ok53 | exact ok54 | exact ok55 | exact ok56 | exact ok57 | exact ok58 | exact ok59 | exact ok60 | exact ok61 | exact ok62 | exact ok63 | exact ok64 | exact ok65 | exact ok66) | cases h
end Go.Proofs.YtcjnmmeibppblaaDoor.C
