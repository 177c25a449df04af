/-
  EACH TREE IS THE PROGRAM's FUNCTION: printed by our own mir.py.
-/
import Derived.Test.YtaadjlpfdajggaaGreatDoorProg
import Derived.Test.YtaadjlpfdajggaaGreatDoorFoCode
import Derived.Test.YtaadjlpfdajggaaGreatDoorAm12
set_option maxRecDepth 100000
set_option maxHeartbeats 0
namespace Go.Proofs.YtaadjlpfdajggaaGreatDoor.C
open Go Go.AM
theorem ok6 : FunOk Tryz.prog 6 f6 := ⟨Tryz.f6, _, f6.body, Tryz.func6, by kernel_rfl, rfl, rfl, rfl, .inl (by kernel_rfl)⟩
theorem ok7 : FunOk Tryz.prog 7 f7 := ⟨Tryz.f7, _, f7.body, Tryz.func7, by kernel_rfl, rfl, rfl, rfl, .inl (by kernel_rfl)⟩
theorem ok16 : FunOk Tryz.prog 16 f16 := ⟨Tryz.f16, _, f16.body, Tryz.func16, by kernel_rfl, rfl, rfl, rfl, .inl (by kernel_rfl)⟩
theorem ok26 : FunOk Tryz.prog 26 f26 := ⟨Tryz.f26, _, f26.body, Tryz.func26, by kernel_rfl, rfl, rfl, rfl, .inl (by kernel_rfl)⟩
theorem ok28 : FunOk Tryz.prog 28 f28 := ⟨Tryz.f28, _, f28.body, Tryz.func28, by kernel_rfl, rfl, rfl, rfl, .inl (by kernel_rfl)⟩
theorem ok29 : FunOk Tryz.prog 29 f29 := ⟨Tryz.f29, _, f29.body, Tryz.func29, by kernel_rfl, rfl, rfl, rfl, .inl (by kernel_rfl)⟩
theorem ok30 : FunOk Tryz.prog 30 f30 := ⟨Tryz.f30, _, f30.body, Tryz.func30, by kernel_rfl, rfl, rfl, rfl, .inl (by kernel_rfl)⟩
theorem ok31 : FunOk Tryz.prog 31 f31 := ⟨Tryz.f31, _, f31.body, Tryz.func31, by kernel_rfl, rfl, rfl, rfl, .inl (by kernel_rfl)⟩
theorem ok33 : FunOk Tryz.prog 33 f33 := ⟨Tryz.f33, _, f33.body, Tryz.func33, by kernel_rfl, rfl, rfl, rfl, .inl (by kernel_rfl)⟩
theorem ok35 : FunOk Tryz.prog 35 f35 := ⟨Tryz.f35, _, f35.body, Tryz.func35, by kernel_rfl, rfl, rfl, rfl, .inl (by kernel_rfl)⟩
theorem ok37 : FunOk Tryz.prog 37 f37 := ⟨Tryz.f37, _, f37.body, Tryz.func37, by kernel_rfl, rfl, rfl, rfl, .inl (by kernel_rfl)⟩
theorem ok38 : FunOk Tryz.prog 38 f38 := ⟨Tryz.f38, _, f38.body, Tryz.func38, by kernel_rfl, rfl, rfl, rfl, .inl (by kernel_rfl)⟩
theorem ok40 : FunOk Tryz.prog 40 f40 := ⟨Tryz.f40, _, f40.body, Tryz.func40, by kernel_rfl, rfl, rfl, rfl, .inl (by kernel_rfl)⟩
theorem ok41 : FunOk Tryz.prog 41 f41 := ⟨Tryz.f41, _, f41.body, Tryz.func41, by kernel_rfl, rfl, rfl, rfl, .inl (by kernel_rfl)⟩
theorem ok44 : FunOk Tryz.prog 44 f44 := ⟨Tryz.f44, _, f44.body, Tryz.func44, by kernel_rfl, rfl, rfl, rfl, .inl (by kernel_rfl)⟩
theorem ok46 : FunOk Tryz.prog 46 f46 := ⟨Tryz.f46, _, f46.body, Tryz.func46, by kernel_rfl, rfl, rfl, rfl, .inl (by kernel_rfl)⟩
theorem ok47 : FunOk Tryz.prog 47 f47 := ⟨Tryz.f47, _, f47.body, Tryz.func47, by kernel_rfl, rfl, rfl, rfl, .inl (by kernel_rfl)⟩
theorem ok48 : FunOk Tryz.prog 48 f48 := ⟨Tryz.f48, _, f48.body, Tryz.func48, by kernel_rfl, rfl, rfl, rfl, .inl (by kernel_rfl)⟩
theorem ok49 : FunOk Tryz.prog 49 f49 := ⟨Tryz.f49, _, f49.body, Tryz.func49, by kernel_rfl, rfl, rfl, rfl, .inl (by kernel_rfl)⟩
theorem ok57 : FunOk Tryz.prog 57 f57 := ⟨Tryz.f57, _, f57.body, Tryz.func57, by kernel_rfl, rfl, rfl, rfl, .inl (by kernel_rfl)⟩
theorem ok59 : FunOk Tryz.prog 59 f59 := ⟨Tryz.f59, _, f59.body, Tryz.func59, by kernel_rfl, rfl, rfl, rfl, .inl (by kernel_rfl)⟩
theorem ok60 : FunOk Tryz.prog 60 f60 := ⟨Tryz.f60, _, f60.body, Tryz.func60, by kernel_rfl, rfl, rfl, rfl, .inl (by kernel_rfl)⟩
theorem ok61 : FunOk Tryz.prog 61 f61 := ⟨Tryz.f61, _, f61.body, Tryz.func61, by kernel_rfl, rfl, rfl, rfl, .inl (by kernel_rfl)⟩
theorem ok62 : FunOk Tryz.prog 62 f62 := ⟨Tryz.f62, _, f62.body, Tryz.func62, by kernel_rfl, rfl, rfl, rfl, .inl (by kernel_rfl)⟩
theorem ok63 : FunOk Tryz.prog 63 f63 := ⟨Tryz.f63, _, f63.body, Tryz.func63, by kernel_rfl, rfl, rfl, rfl, .inl (by kernel_rfl)⟩
theorem ok64 : FunOk Tryz.prog 64 f64 := ⟨Tryz.f64, _, f64.body, Tryz.func64, by kernel_rfl, rfl, rfl, rfl, .inl (by kernel_rfl)⟩
theorem ok65 : FunOk Tryz.prog 65 f65 := ⟨Tryz.f65, _, f65.body, Tryz.func65, by kernel_rfl, rfl, rfl, rfl, .inl (by kernel_rfl)⟩
theorem ok66 : FunOk Tryz.prog 66 f66 := ⟨Tryz.f66, _, f66.body, Tryz.func66, by kernel_rfl, rfl, rfl, rfl, .inl (by kernel_rfl)⟩
theorem ok68 : FunOk Tryz.prog 68 f68 := ⟨Tryz.f68, _, f68.body, Tryz.func68, by kernel_rfl, rfl, rfl, rfl, .inl (by kernel_rfl)⟩
theorem ok72 : FunOk Tryz.prog 72 f72 := ⟨Tryz.f72, _, f72.body, Tryz.func72, by kernel_rfl, rfl, rfl, rfl, .inl (by kernel_rfl)⟩
theorem ok73 : FunOk Tryz.prog 73 f73 := ⟨Tryz.f73, _, f73.body, Tryz.func73, by kernel_rfl, rfl, rfl, rfl, .inl (by kernel_rfl)⟩
theorem ok74 : FunOk Tryz.prog 74 f74 := ⟨Tryz.f74, _, f74.body, Tryz.func74, by kernel_rfl, rfl, rfl, rfl, .inl (by kernel_rfl)⟩
theorem ok75 : FunOk Tryz.prog 75 f75 := ⟨Tryz.f75, _, f75.body, Tryz.func75, by kernel_rfl, rfl, rfl, rfl, .inl (by kernel_rfl)⟩
theorem ok76 : FunOk Tryz.prog 76 f76 := ⟨Tryz.f76, _, f76.body, Tryz.func76, by kernel_rfl, rfl, rfl, rfl, .inl (by kernel_rfl)⟩
theorem ok77 : FunOk Tryz.prog 77 f77 := ⟨Tryz.f77, _, f77.body, Tryz.func77, by kernel_rfl, rfl, rfl, rfl, .inl (by kernel_rfl)⟩
theorem ok78 : FunOk Tryz.prog 78 f78 := ⟨Tryz.f78, _, f78.body, Tryz.func78, by kernel_rfl, rfl, rfl, rfl, .inl (by kernel_rfl)⟩
theorem ok86 : FunOk Tryz.prog 86 f86 := ⟨Tryz.f86, _, f86.body, Tryz.func86, by kernel_rfl, rfl, rfl, rfl, .inl (by kernel_rfl)⟩
theorem ok87 : FunOk Tryz.prog 87 f87 := ⟨Tryz.f87, _, f87.body, Tryz.func87, by kernel_rfl, rfl, rfl, rfl, .inl (by kernel_rfl)⟩
theorem ok88 : FunOk Tryz.prog 88 f88 := ⟨Tryz.f88, _, f88.body, Tryz.func88, by kernel_rfl, rfl, rfl, rfl, .inl (by kernel_rfl)⟩
theorem ok89 : FunOk Tryz.prog 89 f89 := ⟨Tryz.f89, _, f89.body, Tryz.func89, by kernel_rfl, rfl, rfl, rfl, .inl (by kernel_rfl)⟩
theorem ok90 : FunOk Tryz.prog 90 f90 := ⟨Tryz.f90, _, f90.body, Tryz.func90, by kernel_rfl, rfl, rfl, rfl, .inl (by kernel_rfl)⟩
theorem ok91 : FunOk Tryz.prog 91 f91 := ⟨Tryz.f91, _, f91.body, Tryz.func91, by kernel_rfl, rfl, rfl, rfl, .inl (by kernel_rfl)⟩
theorem ok96 : FunOk Tryz.prog 96 f96 := ⟨Tryz.f96, _, f96.body, Tryz.func96, by kernel_rfl, rfl, rfl, rfl, .inl (by kernel_rfl)⟩
theorem ok97 : FunOk Tryz.prog 97 f97 := ⟨Tryz.f97, _, f97.body, Tryz.func97, by kernel_rfl, rfl, rfl, rfl, .inl (by kernel_rfl)⟩
theorem ok98 : FunOk Tryz.prog 98 f98 := ⟨Tryz.f98, _, f98.body, Tryz.func98, by kernel_rfl, rfl, rfl, rfl, .inl (by kernel_rfl)⟩
theorem ok99 : FunOk Tryz.prog 99 f99 := ⟨Tryz.f99, _, f99.body, Tryz.func99, by kernel_rfl, rfl, rfl, rfl, .inl (by kernel_rfl)⟩
theorem ok100 : FunOk Tryz.prog 100 f100 := ⟨Tryz.f100, _, f100.body, Tryz.func100, by kernel_rfl, rfl, rfl, rfl, .inl (by kernel_rfl)⟩
theorem ok102 : FunOk Tryz.prog 102 f102 := ⟨Tryz.f102, _, f102.body, Tryz.func102, by kernel_rfl, rfl, rfl, rfl, .inl (by kernel_rfl)⟩
theorem ok103 : FunOk Tryz.prog 103 f103 := ⟨Tryz.f103, _, f103.body, Tryz.func103, by kernel_rfl, rfl, rfl, rfl, .inl (by kernel_rfl)⟩
theorem ok104 : FunOk Tryz.prog 104 f104 := ⟨Tryz.f104, _, f104.body, Tryz.func104, by kernel_rfl, rfl, rfl, rfl, .inl (by kernel_rfl)⟩
theorem ok105 : FunOk Tryz.prog 105 f105 := ⟨Tryz.f105, _, f105.body, Tryz.func105, by kernel_rfl, rfl, rfl, rfl, .inl (by kernel_rfl)⟩
theorem ok106 : FunOk Tryz.prog 106 f106 := ⟨Tryz.f106, _, f106.body, Tryz.func106, by kernel_rfl, rfl, rfl, rfl, .inl (by kernel_rfl)⟩
theorem ok108 : FunOk Tryz.prog 108 f108 := ⟨Tryz.f108, _, f108.body, Tryz.func108, by kernel_rfl, rfl, rfl, rfl, .inl (by kernel_rfl)⟩
theorem ok109 : FunOk Tryz.prog 109 f109 := ⟨Tryz.f109, _, f109.body, Tryz.func109, by kernel_rfl, rfl, rfl, rfl, .inl (by kernel_rfl)⟩
theorem ok110 : FunOk Tryz.prog 110 f110 := ⟨Tryz.f110, _, f110.body, Tryz.func110, by kernel_rfl, rfl, rfl, rfl, .inl (by kernel_rfl)⟩
theorem ok111 : FunOk Tryz.prog 111 f111 := ⟨Tryz.f111, _, f111.body, Tryz.func111, by kernel_rfl, rfl, rfl, rfl, .inl (by kernel_rfl)⟩
theorem ok112 : FunOk Tryz.prog 112 f112 := ⟨Tryz.f112, _, f112.body, Tryz.func112, by kernel_rfl, rfl, rfl, rfl, .inl (by kernel_rfl)⟩
theorem ok113 : FunOk Tryz.prog 113 f113 := ⟨Tryz.f113, _, f113.body, Tryz.func113, by kernel_rfl, rfl, rfl, rfl, .inl (by kernel_rfl)⟩
theorem ok114 : FunOk Tryz.prog 114 f114 := ⟨Tryz.f114, _, f114.body, Tryz.func114, by kernel_rfl, rfl, rfl, rfl, .inl (by kernel_rfl)⟩
theorem ok115 : FunOk Tryz.prog 115 f115 := ⟨Tryz.f115, _, f115.body, Tryz.func115, by kernel_rfl, rfl, rfl, rfl, .inl (by kernel_rfl)⟩
theorem ok120 : FunOk Tryz.prog 120 f120 := ⟨Tryz.f120, _, f120.body, Tryz.func120, by kernel_rfl, rfl, rfl, rfl, .inl (by kernel_rfl)⟩
theorem ok121 : FunOk Tryz.prog 121 f121 := ⟨Tryz.f121, _, f121.body, Tryz.func121, by kernel_rfl, rfl, rfl, rfl, .inl (by kernel_rfl)⟩
theorem ok124 : FunOk Tryz.prog 124 f124 := ⟨Tryz.f124, _, f124.body, Tryz.func124, by kernel_rfl, rfl, rfl, rfl, .inl (by kernel_rfl)⟩
theorem ok125 : FunOk Tryz.prog 125 f125 := ⟨Tryz.f125, _, f125.body, Tryz.func125, by kernel_rfl, rfl, rfl, rfl, .inl (by kernel_rfl)⟩
theorem ok136 : FunOk Tryz.prog 136 f136 := ⟨Tryz.f136, _, f136.body, Tryz.func136, by kernel_rfl, rfl, rfl, rfl, .inl (by kernel_rfl)⟩
theorem ok137 : FunOk Tryz.prog 137 f137 := ⟨Tryz.f137, _, f137.body, Tryz.func137, by kernel_rfl, rfl, rfl, rfl, .inl (by kernel_rfl)⟩
theorem ok138 : FunOk Tryz.prog 138 f138 := ⟨Tryz.f138, _, f138.body, Tryz.func138, by kernel_rfl, rfl, rfl, rfl, .inl (by kernel_rfl)⟩
theorem ok139 : FunOk Tryz.prog 139 f139 := ⟨Tryz.f139, _, f139.body, Tryz.func139, by kernel_rfl, rfl, rfl, rfl, .inl (by kernel_rfl)⟩
theorem ok140 : FunOk Tryz.prog 140 f140 := ⟨Tryz.f140, _, f140.body, Tryz.func140, by kernel_rfl, rfl, rfl, rfl, .inl (by kernel_rfl)⟩
theorem ok141 : FunOk Tryz.prog 141 f141 := ⟨Tryz.f141, _, f141.body, Tryz.func141, by kernel_rfl, rfl, rfl, rfl, .inl (by kernel_rfl)⟩
theorem ok142 : FunOk Tryz.prog 142 f142 := ⟨Tryz.f142, _, f142.body, Tryz.func142, by kernel_rfl, rfl, rfl, rfl, .inl (by kernel_rfl)⟩
theorem ok143 : FunOk Tryz.prog 143 f143 := ⟨Tryz.f143, _, f143.body, Tryz.func143, by kernel_rfl, rfl, rfl, rfl, .inl (by kernel_rfl)⟩
theorem ok144 : FunOk Tryz.prog 144 f144 := ⟨Tryz.f144, _, f144.body, Tryz.func144, by kernel_rfl, rfl, rfl, rfl, .inl (by kernel_rfl)⟩
theorem ok145 : FunOk Tryz.prog 145 f145 := ⟨Tryz.f145, _, f145.body, Tryz.func145, by kernel_rfl, rfl, rfl, rfl, .inl (by kernel_rfl)⟩
theorem ok146 : FunOk Tryz.prog 146 f146 := ⟨Tryz.f146, _, f146.body, Tryz.func146, by kernel_rfl, rfl, rfl, rfl, .inl (by kernel_rfl)⟩
theorem ok147 : FunOk Tryz.prog 147 f147 := ⟨Tryz.f147, _, f147.body, Tryz.func147, by kernel_rfl, rfl, rfl, rfl, .inl (by kernel_rfl)⟩
theorem ok148 : FunOk Tryz.prog 148 f148 := ⟨Tryz.f148, _, f148.body, Tryz.func148, by kernel_rfl, rfl, rfl, rfl, .inl (by kernel_rfl)⟩
theorem ok149 : FunOk Tryz.prog 149 f149 := ⟨Tryz.f149, _, f149.body, Tryz.func149, by kernel_rfl, rfl, rfl, rfl, .inl (by kernel_rfl)⟩
theorem ok152 : FunOk Tryz.prog 152 f152 := ⟨Tryz.f152, _, f152.body, Tryz.func152, by kernel_rfl, rfl, rfl, rfl, .inl (by kernel_rfl)⟩
theorem ok154 : FunOk Tryz.prog 154 f154 := ⟨Tryz.f154, _, f154.body, Tryz.func154, by kernel_rfl, rfl, rfl, rfl, .inl (by kernel_rfl)⟩
theorem ok155 : FunOk Tryz.prog 155 f155 := ⟨Tryz.f155, _, f155.body, Tryz.func155, by kernel_rfl, rfl, rfl, rfl, .inl (by kernel_rfl)⟩
theorem ok156 : FunOk Tryz.prog 156 f156 := ⟨Tryz.f156, _, f156.body, Tryz.func156, by kernel_rfl, rfl, rfl, rfl, .inl (by kernel_rfl)⟩
theorem ok157 : FunOk Tryz.prog 157 f157 := ⟨Tryz.f157, _, f157.body, Tryz.func157, by kernel_rfl, rfl, rfl, rfl, .inl (by kernel_rfl)⟩
theorem ok158 : FunOk Tryz.prog 158 f158 := ⟨Tryz.f158, _, f158.body, Tryz.func158, by kernel_rfl, rfl, rfl, rfl, .inl (by kernel_rfl)⟩
theorem ok159 : FunOk Tryz.prog 159 f159 := ⟨Tryz.f159, _, f159.body, Tryz.func159, by kernel_rfl, rfl, rfl, rfl, .inl (by kernel_rfl)⟩
theorem ok160 : FunOk Tryz.prog 160 f160 := ⟨Tryz.f160, _, f160.body, Tryz.func160, by kernel_rfl, rfl, rfl, rfl, .inl (by kernel_rfl)⟩
theorem ok161 : FunOk Tryz.prog 161 f161 := ⟨Tryz.f161, _, f161.body, Tryz.func161, by kernel_rfl, rfl, rfl, rfl, .inl (by kernel_rfl)⟩
theorem ok162 : FunOk Tryz.prog 162 f162 := ⟨Tryz.f162, _, f162.body, Tryz.func162, by kernel_rfl, rfl, rfl, rfl, .inl (by kernel_rfl)⟩
theorem ok163 : FunOk Tryz.prog 163 f163 := ⟨Tryz.f163, _, f163.body, Tryz.func163, by kernel_rfl, rfl, rfl, rfl, .inl (by kernel_rfl)⟩
theorem ok164 : FunOk Tryz.prog 164 f164 := ⟨Tryz.f164, _, f164.body, Tryz.func164, by kernel_rfl, rfl, rfl, rfl, .inl (by kernel_rfl)⟩
theorem ok165 : FunOk Tryz.prog 165 f165 := ⟨Tryz.f165, _, f165.body, Tryz.func165, by kernel_rfl, rfl, rfl, rfl, .inl (by kernel_rfl)⟩
theorem ok166 : FunOk Tryz.prog 166 f166 := ⟨Tryz.f166, _, f166.body, Tryz.func166, by kernel_rfl, rfl, rfl, rfl, .inl (by kernel_rfl)⟩
theorem ok170 : FunOk Tryz.prog 170 f170 := ⟨Tryz.f170, _, f170.body, Tryz.func170, by kernel_rfl, rfl, rfl, rfl, .inl (by kernel_rfl)⟩
theorem ok171 : FunOk Tryz.prog 171 f171 := ⟨Tryz.f171, _, f171.body, Tryz.func171, by kernel_rfl, rfl, rfl, rfl, .inl (by kernel_rfl)⟩
theorem ok172 : FunOk Tryz.prog 172 f172 := ⟨Tryz.f172, _, f172.body, Tryz.func172, by kernel_rfl, rfl, rfl, rfl, .inl (by kernel_rfl)⟩
theorem ok173 : FunOk Tryz.prog 173 f173 := ⟨Tryz.f173, _, f173.body, Tryz.func173, by kernel_rfl, rfl, rfl, rfl, .inl (by kernel_rfl)⟩
theorem ok174 : FunOk Tryz.prog 174 f174 := ⟨Tryz.f174, _, f174.body, Tryz.func174, by kernel_rfl, rfl, rfl, rfl, .inl (by kernel_rfl)⟩
theorem ok175 : FunOk Tryz.prog 175 f175 := ⟨Tryz.f175, _, f175.body, Tryz.func175, by kernel_rfl, rfl, rfl, rfl, .inl (by kernel_rfl)⟩
theorem ok177 : FunOk Tryz.prog 177 f177 := ⟨Tryz.f177, _, f177.body, Tryz.func177, by kernel_rfl, rfl, rfl, rfl, .inl (by kernel_rfl)⟩
theorem ok178 : FunOk Tryz.prog 178 f178 := ⟨Tryz.f178, _, f178.body, Tryz.func178, by kernel_rfl, rfl, rfl, rfl, .inl (by kernel_rfl)⟩
theorem ok179 : FunOk Tryz.prog 179 f179 := ⟨Tryz.f179, _, f179.body, Tryz.func179, by kernel_rfl, rfl, rfl, rfl, .inl (by kernel_rfl)⟩
theorem ok180 : FunOk Tryz.prog 180 f180 := ⟨Tryz.f180, _, f180.body, Tryz.func180, by kernel_rfl, rfl, rfl, rfl, .inl (by kernel_rfl)⟩
theorem ok181 : FunOk Tryz.prog 181 f181 := ⟨Tryz.f181, _, f181.body, Tryz.func181, by kernel_rfl, rfl, rfl, rfl, .inl (by kernel_rfl)⟩
theorem ok182 : FunOk Tryz.prog 182 f182 := ⟨Tryz.f182, _, f182.body, Tryz.func182, by kernel_rfl, rfl, rfl, rfl, .inl (by kernel_rfl)⟩
theorem ok187 : FunOk Tryz.prog 187 f187 := ⟨Tryz.f187, _, f187.body, Tryz.func187, by kernel_rfl, rfl, rfl, rfl, .inl (by kernel_rfl)⟩
theorem ok188 : FunOk Tryz.prog 188 f188 := ⟨Tryz.f188, _, f188.body, Tryz.func188, by kernel_rfl, rfl, rfl, rfl, .inl (by kernel_rfl)⟩
theorem ok189 : FunOk Tryz.prog 189 f189 := ⟨Tryz.f189, _, f189.body, Tryz.func189, by kernel_rfl, rfl, rfl, rfl, .inl (by kernel_rfl)⟩
theorem ok194 : FunOk Tryz.prog 194 f194 := ⟨Tryz.f194, _, f194.body, Tryz.func194, by kernel_rfl, rfl, rfl, rfl, .inl (by kernel_rfl)⟩
theorem ok196 : FunOk Tryz.prog 196 f196 := ⟨Tryz.f196, _, f196.body, Tryz.func196, by kernel_rfl, rfl, rfl, rfl, .inl (by kernel_rfl)⟩
theorem ok198 : FunOk Tryz.prog 198 f198 := ⟨Tryz.f198, _, f198.body, Tryz.func198, by kernel_rfl, rfl, rfl, rfl, .inl (by kernel_rfl)⟩
theorem ok199 : FunOk Tryz.prog 199 f199 := ⟨Tryz.f199, _, f199.body, Tryz.func199, by kernel_rfl, rfl, rfl, rfl, .inl (by kernel_rfl)⟩
theorem ok200 : FunOk Tryz.prog 200 f200 := ⟨Tryz.f200, _, f200.body, Tryz.func200, by kernel_rfl, rfl, rfl, rfl, .inl (by kernel_rfl)⟩
theorem ok69 : FunOk Tryz.prog 69 f69 := ⟨Tryz.f69, _, .skip, Tryz.func69, by kernel_rfl, rfl, rfl, rfl, .inr rfl⟩
theorem okF : ∀ g af, F g = some af → FunOk Tryz.prog g af := fun g af h => by
  unfold F at h
  split at h
  · injection h with h; subst h; exact ok6
  · injection h with h; subst h; exact ok7
  · injection h with h; subst h; exact ok16
  · injection h with h; subst h; exact ok26
  · injection h with h; subst h; exact ok28
  · injection h with h; subst h; exact ok29
  · injection h with h; subst h; exact ok30
  · injection h with h; subst h; exact ok31
  · injection h with h; subst h; exact ok33
  · injection h with h; subst h; exact ok35
  · injection h with h; subst h; exact ok37
  · injection h with h; subst h; exact ok38
  · injection h with h; subst h; exact ok40
  · injection h with h; subst h; exact ok41
  · injection h with h; subst h; exact ok44
  · injection h with h; subst h; exact ok46
  · injection h with h; subst h; exact ok47
  · injection h with h; subst h; exact ok48
  · injection h with h; subst h; exact ok49
  · injection h with h; subst h; exact ok57
  · injection h with h; subst h; exact ok59
  · injection h with h; subst h; exact ok60
  · injection h with h; subst h; exact ok61
  · injection h with h; subst h; exact ok62
  · injection h with h; subst h; exact ok63
  · injection h with h; subst h; exact ok64
  · injection h with h; subst h; exact ok65
  · injection h with h; subst h; exact ok66
  · injection h with h; subst h; exact ok68
  · injection h with h; subst h; exact ok72
  · injection h with h; subst h; exact ok73
  · injection h with h; subst h; exact ok74
  · injection h with h; subst h; exact ok75
  · injection h with h; subst h; exact ok76
  · injection h with h; subst h; exact ok77
  · injection h with h; subst h; exact ok78
  · injection h with h; subst h; exact ok86
  · injection h with h; subst h; exact ok87
  · injection h with h; subst h; exact ok88
  · injection h with h; subst h; exact ok89
  · injection h with h; subst h; exact ok90
  · injection h with h; subst h; exact ok91
  · injection h with h; subst h; exact ok96
  · injection h with h; subst h; exact ok97
  · injection h with h; subst h; exact ok98
  · injection h with h; subst h; exact ok99
  · injection h with h; subst h; exact ok100
  · injection h with h; subst h; exact ok102
  · injection h with h; subst h; exact ok103
  · injection h with h; subst h; exact ok104
  · injection h with h; subst h; exact ok105
  · injection h with h; subst h; exact ok106
  · injection h with h; subst h; exact ok108
  · injection h with h; subst h; exact ok109
  · injection h with h; subst h; exact ok110
  · injection h with h; subst h; exact ok111
  · injection h with h; subst h; exact ok112
  · injection h with h; subst h; exact ok113
  · injection h with h; subst h; exact ok114
  · injection h with h; subst h; exact ok115
  · injection h with h; subst h; exact ok120
  · injection h with h; subst h; exact ok121
  · injection h with h; subst h; exact ok124
  · injection h with h; subst h; exact ok125
  · injection h with h; subst h; exact ok136
  · injection h with h; subst h; exact ok137
  · injection h with h; subst h; exact ok138
  · injection h with h; subst h; exact ok139
  · injection h with h; subst h; exact ok140
  · injection h with h; subst h; exact ok141
  · injection h with h; subst h; exact ok142
  · injection h with h; subst h; exact ok143
  · injection h with h; subst h; exact ok144
  · injection h with h; subst h; exact ok145
  · injection h with h; subst h; exact ok146
  · injection h with h; subst h; exact ok147
  · injection h with h; subst h; exact ok148
  · injection h with h; subst h; exact ok149
  · injection h with h; subst h; exact ok152
  · injection h with h; subst h; exact ok154
  · injection h with h; subst h; exact ok155
  · injection h with h; subst h; exact ok156
  · injection h with h; subst h; exact ok157
  · injection h with h; subst h; exact ok158
  · injection h with h; subst h; exact ok159
  · injection h with h; subst h; exact ok160
  · injection h with h; subst h; exact ok161
  · injection h with h; subst h; exact ok162
  · injection h with h; subst h; exact ok163
  · injection h with h; subst h; exact ok164
  · injection h with h; subst h; exact ok165
  · injection h with h; subst h; exact ok166
  · injection h with h; subst h; exact ok170
  · injection h with h; subst h; exact ok171
  · injection h with h; subst h; exact ok172
  · injection h with h; subst h; exact ok173
  · injection h with h; subst h; exact ok174
  · injection h with h; subst h; exact ok175
  · injection h with h; subst h; exact ok177
  · injection h with h; subst h; exact ok178
  · injection h with h; subst h; exact ok179
  · injection h with h; subst h; exact ok180
  · injection h with h; subst h; exact ok181
  · injection h with h; subst h; exact ok182
  · injection h with h; subst h; exact ok187
  · injection h with h; subst h; exact ok188
  · injection h with h; subst h; exact ok189
  · injection h with h; subst h; exact ok194
  · injection h with h; subst h; exact ok196
  · injection h with h; subst h; exact ok198
  · injection h with h; subst h; exact ok199
  · injection h with h; subst h; exact ok200
  · injection h with h; subst h; exact ok69
  · cases h
theorem dok69 : DOk Tryz.prog 69 d69 := ⟨Tryz.f69, _, _, _, _, _, _, d69.post, Tryz.f107, _, _, _, _, _, d69.rest, Tryz.func69, rfl, rfl, rfl, by kernel_rfl, by kernel_rfl, rfl, rfl, rfl, by kernel_rfl, Tryz.func107, by kernel_rfl, rfl, rfl, rfl, rfl, rfl, rfl, rfl, by kernel_rfl, by kernel_rfl, by decide⟩
theorem okD : ∀ f D, Df f = some D → DOk Tryz.prog f D := fun f D h => by
  unfold Df at h
  split at h
  · injection h with h; subst h; exact dok69
  · cases h
end Go.Proofs.YtaadjlpfdajggaaGreatDoor.C
