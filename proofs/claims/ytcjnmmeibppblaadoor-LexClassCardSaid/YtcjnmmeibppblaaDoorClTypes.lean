/-
  FACTS OF THE TYPES OF THIS SEAT: printed by our own types.py.
-/
import Derived.Test.YtcjnmmeibppblaaDoorProg
import Derived.Test.YtcjnmmeibppblaaDoorAm0
set_option maxRecDepth 100000
namespace Go.Proofs.YtcjnmmeibppblaaDoor.T
open Go Go.AM
theorem ag1 : aggO Tryd.prog 1 = some false := by kernel_rfl
theorem by1 : bytesO Tryd.prog 1 = some 8 := by kernel_rfl
theorem sz1 : szO Tryd.prog 1 = some 1 := by kernel_rfl
theorem zc1 : zc Tryd.prog 1 = some [.nilFunc] := by kernel_rfl
theorem ag2 : aggO Tryd.prog 2 = some false := by kernel_rfl
theorem by2 : bytesO Tryd.prog 2 = some 8 := by kernel_rfl
theorem sz2 : szO Tryd.prog 2 = some 1 := by kernel_rfl
theorem zc2 : zc Tryd.prog 2 = some [.int .i64 0] := by kernel_rfl
theorem ag3 : aggO Tryd.prog 3 = some false := by kernel_rfl
theorem by3 : bytesO Tryd.prog 3 = some 8 := by kernel_rfl
theorem sz3 : szO Tryd.prog 3 = some 1 := by kernel_rfl
theorem zc3 : zc Tryd.prog 3 = some [.int .i64 0] := by kernel_rfl
theorem ag4 : aggO Tryd.prog 4 = some false := by kernel_rfl
theorem by4 : bytesO Tryd.prog 4 = some 1 := by kernel_rfl
theorem sz4 : szO Tryd.prog 4 = some 1 := by kernel_rfl
theorem zc4 : zc Tryd.prog 4 = some [.bool false] := by kernel_rfl
theorem ag5 : aggO Tryd.prog 5 = some false := by kernel_rfl
theorem by5 : bytesO Tryd.prog 5 = some 1 := by kernel_rfl
theorem sz5 : szO Tryd.prog 5 = some 1 := by kernel_rfl
theorem zc5 : zc Tryd.prog 5 = some [.int .u8 0] := by kernel_rfl
theorem ag6 : aggO Tryd.prog 6 = some false := by kernel_rfl
theorem by6 : bytesO Tryd.prog 6 = some 1 := by kernel_rfl
theorem sz6 : szO Tryd.prog 6 = some 1 := by kernel_rfl
theorem zc6 : zc Tryd.prog 6 = some [.int .u8 0] := by kernel_rfl
theorem ag7 : aggO Tryd.prog 7 = some true := by kernel_rfl
theorem by7 : bytesO Tryd.prog 7 = some 24 := by kernel_rfl
theorem sz7 : szO Tryd.prog 7 = some 4 := by kernel_rfl
theorem zc7 : zc Tryd.prog 7 = some [.int .i64 0, .int .i64 0, .bool false, .int .u8 0] := by kernel_rfl
theorem ag8 : aggO Tryd.prog 8 = some true := by kernel_rfl
theorem by8 : bytesO Tryd.prog 8 = some 24 := by kernel_rfl
theorem sz8 : szO Tryd.prog 8 = some 4 := by kernel_rfl
theorem zc8 : zc Tryd.prog 8 = some [.int .i64 0, .int .i64 0, .bool false, .int .u8 0] := by kernel_rfl
theorem ag9 : aggO Tryd.prog 9 = some false := by kernel_rfl
theorem by9 : bytesO Tryd.prog 9 = some 16 := by kernel_rfl
theorem sz9 : szO Tryd.prog 9 = some 1 := by kernel_rfl
theorem zc9 : zc Tryd.prog 9 = some [.string ⟨#[]⟩] := by kernel_rfl
theorem ag10 : aggO Tryd.prog 10 = some false := by kernel_rfl
theorem by10 : bytesO Tryd.prog 10 = some 16 := by kernel_rfl
theorem sz10 : szO Tryd.prog 10 = some 1 := by kernel_rfl
theorem zc10 : zc Tryd.prog 10 = some [.string ⟨#[]⟩] := by kernel_rfl
theorem ag11 : aggO Tryd.prog 11 = some false := by kernel_rfl
theorem by11 : bytesO Tryd.prog 11 = some 16 := by kernel_rfl
theorem sz11 : szO Tryd.prog 11 = some 1 := by kernel_rfl
theorem zc11 : zc Tryd.prog 11 = some [.string ⟨#[]⟩] := by kernel_rfl
theorem ag12 : aggO Tryd.prog 12 = some false := by kernel_rfl
theorem by12 : bytesO Tryd.prog 12 = some 8 := by kernel_rfl
theorem sz12 : szO Tryd.prog 12 = some 1 := by kernel_rfl
theorem zc12 : zc Tryd.prog 12 = some [.int .u64 0] := by kernel_rfl
theorem ag13 : aggO Tryd.prog 13 = some true := by kernel_rfl
theorem by13 : bytesO Tryd.prog 13 = some 24 := by kernel_rfl
theorem sz13 : szO Tryd.prog 13 = some 2 := by kernel_rfl
theorem zc13 : zc Tryd.prog 13 = some [.string ⟨#[]⟩, .int .u64 0] := by kernel_rfl
theorem ag14 : aggO Tryd.prog 14 = some true := by kernel_rfl
theorem by14 : bytesO Tryd.prog 14 = some 24 := by kernel_rfl
theorem sz14 : szO Tryd.prog 14 = some 2 := by kernel_rfl
theorem zc14 : zc Tryd.prog 14 = some [.string ⟨#[]⟩, .int .u64 0] := by kernel_rfl
theorem ag15 : aggO Tryd.prog 15 = some false := by kernel_rfl
theorem by15 : bytesO Tryd.prog 15 = some 8 := by kernel_rfl
theorem sz15 : szO Tryd.prog 15 = some 1 := by kernel_rfl
theorem zc15 : zc Tryd.prog 15 = some [.pointer none] := by kernel_rfl
theorem ag16 : aggO Tryd.prog 16 = some false := by kernel_rfl
theorem by16 : bytesO Tryd.prog 16 = some 8 := by kernel_rfl
theorem sz16 : szO Tryd.prog 16 = some 1 := by kernel_rfl
theorem zc16 : zc Tryd.prog 16 = some [.pointer none] := by kernel_rfl
theorem ag17 : aggO Tryd.prog 17 = some false := by kernel_rfl
theorem by17 : bytesO Tryd.prog 17 = some 8 := by kernel_rfl
theorem sz17 : szO Tryd.prog 17 = some 1 := by kernel_rfl
theorem zc17 : zc Tryd.prog 17 = some [.pointer none] := by kernel_rfl
theorem ag18 : aggO Tryd.prog 18 = some true := by kernel_rfl
theorem by18 : bytesO Tryd.prog 18 = some 8 := by kernel_rfl
theorem sz18 : szO Tryd.prog 18 = some 1 := by kernel_rfl
theorem zc18 : zc Tryd.prog 18 = some [.pointer none] := by kernel_rfl
theorem ag19 : aggO Tryd.prog 19 = some true := by kernel_rfl
theorem by19 : bytesO Tryd.prog 19 = some 8 := by kernel_rfl
theorem sz19 : szO Tryd.prog 19 = some 1 := by kernel_rfl
theorem zc19 : zc Tryd.prog 19 = some [.pointer none] := by kernel_rfl
theorem ag20 : aggO Tryd.prog 20 = some false := by kernel_rfl
theorem by20 : bytesO Tryd.prog 20 = some 16 := by kernel_rfl
theorem sz20 : szO Tryd.prog 20 = some 1 := by kernel_rfl
theorem zc20 : zc Tryd.prog 20 = some [.nilIface] := by kernel_rfl
theorem ag21 : aggO Tryd.prog 21 = some false := by kernel_rfl
theorem by21 : bytesO Tryd.prog 21 = some 4 := by kernel_rfl
theorem sz21 : szO Tryd.prog 21 = some 1 := by kernel_rfl
theorem zc21 : zc Tryd.prog 21 = some [.int .i32 0] := by kernel_rfl
theorem ag22 : aggO Tryd.prog 22 = some false := by kernel_rfl
theorem by22 : bytesO Tryd.prog 22 = some 24 := by kernel_rfl
theorem sz22 : szO Tryd.prog 22 = some 1 := by kernel_rfl
theorem zc22 : zc Tryd.prog 22 = some [.slice none 0 0] := by kernel_rfl
theorem ag23 : aggO Tryd.prog 23 = some false := by kernel_rfl
theorem by23 : bytesO Tryd.prog 23 = some 8 := by kernel_rfl
theorem sz23 : szO Tryd.prog 23 = some 1 := by kernel_rfl
theorem zc23 : zc Tryd.prog 23 = some [.int .i64 0] := by kernel_rfl
theorem ag25 : aggO Tryd.prog 25 = some false := by kernel_rfl
theorem by25 : bytesO Tryd.prog 25 = some 8 := by kernel_rfl
theorem sz25 : szO Tryd.prog 25 = some 1 := by kernel_rfl
theorem zc25 : zc Tryd.prog 25 = some [.nilFunc] := by kernel_rfl
theorem ag26 : aggO Tryd.prog 26 = some false := by kernel_rfl
theorem by26 : bytesO Tryd.prog 26 = some 24 := by kernel_rfl
theorem sz26 : szO Tryd.prog 26 = some 1 := by kernel_rfl
theorem zc26 : zc Tryd.prog 26 = some [.slice none 0 0] := by kernel_rfl
theorem ag28 : aggO Tryd.prog 28 = some false := by kernel_rfl
theorem by28 : bytesO Tryd.prog 28 = some 8 := by kernel_rfl
theorem sz28 : szO Tryd.prog 28 = some 1 := by kernel_rfl
theorem zc28 : zc Tryd.prog 28 = some [.nilFunc] := by kernel_rfl
theorem ag29 : aggO Tryd.prog 29 = some false := by kernel_rfl
theorem by29 : bytesO Tryd.prog 29 = some 8 := by kernel_rfl
theorem sz29 : szO Tryd.prog 29 = some 1 := by kernel_rfl
theorem zc29 : zc Tryd.prog 29 = some [.nilFunc] := by kernel_rfl
theorem ag30 : aggO Tryd.prog 30 = some false := by kernel_rfl
theorem by30 : bytesO Tryd.prog 30 = some 8 := by kernel_rfl
theorem sz30 : szO Tryd.prog 30 = some 1 := by kernel_rfl
theorem zc30 : zc Tryd.prog 30 = some [.nilFunc] := by kernel_rfl
theorem ag31 : aggO Tryd.prog 31 = some false := by kernel_rfl
theorem by31 : bytesO Tryd.prog 31 = some 8 := by kernel_rfl
theorem sz31 : szO Tryd.prog 31 = some 1 := by kernel_rfl
theorem zc31 : zc Tryd.prog 31 = some [.nilFunc] := by kernel_rfl
theorem ag32 : aggO Tryd.prog 32 = some false := by kernel_rfl
theorem by32 : bytesO Tryd.prog 32 = some 8 := by kernel_rfl
theorem sz32 : szO Tryd.prog 32 = some 1 := by kernel_rfl
theorem zc32 : zc Tryd.prog 32 = some [.nilFunc] := by kernel_rfl
theorem ag33 : aggO Tryd.prog 33 = some false := by kernel_rfl
theorem by33 : bytesO Tryd.prog 33 = some 8 := by kernel_rfl
theorem sz33 : szO Tryd.prog 33 = some 1 := by kernel_rfl
theorem zc33 : zc Tryd.prog 33 = some [.int .u64 0] := by kernel_rfl
theorem ag34 : aggO Tryd.prog 34 = some true := by kernel_rfl
theorem by34 : bytesO Tryd.prog 34 = some 32 := by kernel_rfl
theorem sz34 : szO Tryd.prog 34 = some 4 := by kernel_rfl
theorem zc34 : zc Tryd.prog 34 = some [.int .u64 0, .int .u64 0, .int .u64 0, .int .u64 0] := by kernel_rfl
theorem ag35 : aggO Tryd.prog 35 = some true := by kernel_rfl
theorem by35 : bytesO Tryd.prog 35 = some 32 := by kernel_rfl
theorem sz35 : szO Tryd.prog 35 = some 4 := by kernel_rfl
theorem zc35 : zc Tryd.prog 35 = some [.int .u64 0, .int .u64 0, .int .u64 0, .int .u64 0] := by kernel_rfl
theorem ag36 : aggO Tryd.prog 36 = some true := by kernel_rfl
theorem by36 : bytesO Tryd.prog 36 = some 32 := by kernel_rfl
theorem sz36 : szO Tryd.prog 36 = some 4 := by kernel_rfl
theorem zc36 : zc Tryd.prog 36 = some [.int .u64 0, .int .u64 0, .int .u64 0, .int .u64 0] := by kernel_rfl
theorem ag38 : aggO Tryd.prog 38 = some false := by kernel_rfl
theorem by38 : bytesO Tryd.prog 38 = some 8 := by kernel_rfl
theorem sz38 : szO Tryd.prog 38 = some 1 := by kernel_rfl
theorem zc38 : zc Tryd.prog 38 = some [.nilFunc] := by kernel_rfl
theorem ag40 : aggO Tryd.prog 40 = some false := by kernel_rfl
theorem by40 : bytesO Tryd.prog 40 = some 8 := by kernel_rfl
theorem sz40 : szO Tryd.prog 40 = some 1 := by kernel_rfl
theorem zc40 : zc Tryd.prog 40 = some [.nilFunc] := by kernel_rfl
theorem ag41 : aggO Tryd.prog 41 = some false := by kernel_rfl
theorem by41 : bytesO Tryd.prog 41 = some 8 := by kernel_rfl
theorem sz41 : szO Tryd.prog 41 = some 1 := by kernel_rfl
theorem zc41 : zc Tryd.prog 41 = some [.nilFunc] := by kernel_rfl
theorem ag42 : aggO Tryd.prog 42 = some false := by kernel_rfl
theorem by42 : bytesO Tryd.prog 42 = some 8 := by kernel_rfl
theorem sz42 : szO Tryd.prog 42 = some 1 := by kernel_rfl
theorem zc42 : zc Tryd.prog 42 = some [.nilFunc] := by kernel_rfl
theorem ag43 : aggO Tryd.prog 43 = some false := by kernel_rfl
theorem by43 : bytesO Tryd.prog 43 = some 24 := by kernel_rfl
theorem sz43 : szO Tryd.prog 43 = some 1 := by kernel_rfl
theorem zc43 : zc Tryd.prog 43 = some [.slice none 0 0] := by kernel_rfl
theorem ag44 : aggO Tryd.prog 44 = some false := by kernel_rfl
theorem by44 : bytesO Tryd.prog 44 = some 8 := by kernel_rfl
theorem sz44 : szO Tryd.prog 44 = some 1 := by kernel_rfl
theorem zc44 : zc Tryd.prog 44 = some [.nilFunc] := by kernel_rfl
theorem ag45 : aggO Tryd.prog 45 = some true := by kernel_rfl
theorem by45 : bytesO Tryd.prog 45 = some 88 := by kernel_rfl
theorem sz45 : szO Tryd.prog 45 = some 10 := by kernel_rfl
theorem zc45 : zc Tryd.prog 45 = some [.int .i64 0, .int .u64 0, .int .u64 0, .int .u64 0, .int .u64 0, .int .i64 0, .int .i64 0, .int .i64 0, .int .i64 0, .string ⟨#[]⟩] := by kernel_rfl
theorem ag46 : aggO Tryd.prog 46 = some true := by kernel_rfl
theorem by46 : bytesO Tryd.prog 46 = some 88 := by kernel_rfl
theorem sz46 : szO Tryd.prog 46 = some 10 := by kernel_rfl
theorem zc46 : zc Tryd.prog 46 = some [.int .i64 0, .int .u64 0, .int .u64 0, .int .u64 0, .int .u64 0, .int .i64 0, .int .i64 0, .int .i64 0, .int .i64 0, .string ⟨#[]⟩] := by kernel_rfl
theorem ag47 : aggO Tryd.prog 47 = some false := by kernel_rfl
theorem by47 : bytesO Tryd.prog 47 = some 8 := by kernel_rfl
theorem sz47 : szO Tryd.prog 47 = some 1 := by kernel_rfl
theorem zc47 : zc Tryd.prog 47 = some [.nilFunc] := by kernel_rfl
theorem ag48 : aggO Tryd.prog 48 = some false := by kernel_rfl
theorem by48 : bytesO Tryd.prog 48 = some 8 := by kernel_rfl
theorem sz48 : szO Tryd.prog 48 = some 1 := by kernel_rfl
theorem zc48 : zc Tryd.prog 48 = some [.nilFunc] := by kernel_rfl
theorem ag49 : aggO Tryd.prog 49 = some false := by kernel_rfl
theorem by49 : bytesO Tryd.prog 49 = some 8 := by kernel_rfl
theorem sz49 : szO Tryd.prog 49 = some 1 := by kernel_rfl
theorem zc49 : zc Tryd.prog 49 = some [.nilFunc] := by kernel_rfl
theorem ag50 : aggO Tryd.prog 50 = some false := by kernel_rfl
theorem by50 : bytesO Tryd.prog 50 = some 8 := by kernel_rfl
theorem sz50 : szO Tryd.prog 50 = some 1 := by kernel_rfl
theorem zc50 : zc Tryd.prog 50 = some [.nilFunc] := by kernel_rfl
theorem ag51 : aggO Tryd.prog 51 = some false := by kernel_rfl
theorem by51 : bytesO Tryd.prog 51 = some 8 := by kernel_rfl
theorem sz51 : szO Tryd.prog 51 = some 1 := by kernel_rfl
theorem zc51 : zc Tryd.prog 51 = some [.nilFunc] := by kernel_rfl
theorem ag52 : aggO Tryd.prog 52 = some false := by kernel_rfl
theorem by52 : bytesO Tryd.prog 52 = some 24 := by kernel_rfl
theorem sz52 : szO Tryd.prog 52 = some 1 := by kernel_rfl
theorem zc52 : zc Tryd.prog 52 = some [.slice none 0 0] := by kernel_rfl
theorem ag53 : aggO Tryd.prog 53 = some false := by kernel_rfl
theorem by53 : bytesO Tryd.prog 53 = some 8 := by kernel_rfl
theorem sz53 : szO Tryd.prog 53 = some 1 := by kernel_rfl
theorem zc53 : zc Tryd.prog 53 = some [.nilFunc] := by kernel_rfl
theorem ag54 : aggO Tryd.prog 54 = some true := by kernel_rfl
theorem by54 : bytesO Tryd.prog 54 = some 3 := by kernel_rfl
theorem sz54 : szO Tryd.prog 54 = some 3 := by kernel_rfl
theorem zc54 : zc Tryd.prog 54 = some [.int .u8 0, .int .u8 0, .int .u8 0] := by kernel_rfl
theorem ag55 : aggO Tryd.prog 55 = some false := by kernel_rfl
theorem by55 : bytesO Tryd.prog 55 = some 8 := by kernel_rfl
theorem sz55 : szO Tryd.prog 55 = some 1 := by kernel_rfl
theorem zc55 : zc Tryd.prog 55 = some [.nilFunc] := by kernel_rfl
theorem ag57 : aggO Tryd.prog 57 = some false := by kernel_rfl
theorem by57 : bytesO Tryd.prog 57 = some 8 := by kernel_rfl
theorem sz57 : szO Tryd.prog 57 = some 1 := by kernel_rfl
theorem zc57 : zc Tryd.prog 57 = some [.nilFunc] := by kernel_rfl
theorem ag58 : aggO Tryd.prog 58 = some true := by kernel_rfl
theorem by58 : bytesO Tryd.prog 58 = some 88 := by kernel_rfl
theorem sz58 : szO Tryd.prog 58 = some 10 := by kernel_rfl
theorem zc58 : zc Tryd.prog 58 = some [.int .i64 0, .int .u64 0, .int .u64 0, .int .u64 0, .int .u64 0, .int .i64 0, .int .i64 0, .int .i64 0, .int .i64 0, .string ⟨#[]⟩] := by kernel_rfl
theorem ag59 : aggO Tryd.prog 59 = some true := by kernel_rfl
theorem by59 : bytesO Tryd.prog 59 = some 88 := by kernel_rfl
theorem sz59 : szO Tryd.prog 59 = some 10 := by kernel_rfl
theorem zc59 : zc Tryd.prog 59 = some [.int .i64 0, .int .u64 0, .int .u64 0, .int .u64 0, .int .u64 0, .int .i64 0, .int .i64 0, .int .i64 0, .int .i64 0, .string ⟨#[]⟩] := by kernel_rfl
theorem ag61 : aggO Tryd.prog 61 = some false := by kernel_rfl
theorem by61 : bytesO Tryd.prog 61 = some 8 := by kernel_rfl
theorem sz61 : szO Tryd.prog 61 = some 1 := by kernel_rfl
theorem zc61 : zc Tryd.prog 61 = some [.nilFunc] := by kernel_rfl
theorem ag62 : aggO Tryd.prog 62 = some false := by kernel_rfl
theorem by62 : bytesO Tryd.prog 62 = some 8 := by kernel_rfl
theorem sz62 : szO Tryd.prog 62 = some 1 := by kernel_rfl
theorem zc62 : zc Tryd.prog 62 = some [.nilFunc] := by kernel_rfl
theorem ag64 : aggO Tryd.prog 64 = some false := by kernel_rfl
theorem by64 : bytesO Tryd.prog 64 = some 8 := by kernel_rfl
theorem sz64 : szO Tryd.prog 64 = some 1 := by kernel_rfl
theorem zc64 : zc Tryd.prog 64 = some [.nilFunc] := by kernel_rfl
theorem ag65 : aggO Tryd.prog 65 = some false := by kernel_rfl
theorem by65 : bytesO Tryd.prog 65 = some 8 := by kernel_rfl
theorem sz65 : szO Tryd.prog 65 = some 1 := by kernel_rfl
theorem zc65 : zc Tryd.prog 65 = some [.nilFunc] := by kernel_rfl
theorem ag66 : aggO Tryd.prog 66 = some true := by kernel_rfl
theorem by66 : bytesO Tryd.prog 66 = some 256 := by kernel_rfl
theorem sz66 : szO Tryd.prog 66 = some 256 := by kernel_rfl
theorem zc66 : zc Tryd.prog 66 = some (List.replicate 256 (.bool false)) := by kernel_rfl
theorem ag67 : aggO Tryd.prog 67 = some true := by kernel_rfl
theorem by67 : bytesO Tryd.prog 67 = some 256 := by kernel_rfl
theorem sz67 : szO Tryd.prog 67 = some 256 := by kernel_rfl
theorem zc67 : zc Tryd.prog 67 = some (List.replicate 256 (.bool false)) := by kernel_rfl
theorem ag68 : aggO Tryd.prog 68 = some true := by kernel_rfl
theorem by68 : bytesO Tryd.prog 68 = some 256 := by kernel_rfl
theorem sz68 : szO Tryd.prog 68 = some 256 := by kernel_rfl
theorem zc68 : zc Tryd.prog 68 = some (List.replicate 256 (.bool false)) := by kernel_rfl
theorem ag70 : aggO Tryd.prog 70 = some false := by kernel_rfl
theorem by70 : bytesO Tryd.prog 70 = some 8 := by kernel_rfl
theorem sz70 : szO Tryd.prog 70 = some 1 := by kernel_rfl
theorem zc70 : zc Tryd.prog 70 = some [.nilFunc] := by kernel_rfl
theorem ag72 : aggO Tryd.prog 72 = some false := by kernel_rfl
theorem by72 : bytesO Tryd.prog 72 = some 8 := by kernel_rfl
theorem sz72 : szO Tryd.prog 72 = some 1 := by kernel_rfl
theorem zc72 : zc Tryd.prog 72 = some [.nilFunc] := by kernel_rfl
theorem ag73 : aggO Tryd.prog 73 = some false := by kernel_rfl
theorem by73 : bytesO Tryd.prog 73 = some 8 := by kernel_rfl
theorem sz73 : szO Tryd.prog 73 = some 1 := by kernel_rfl
theorem zc73 : zc Tryd.prog 73 = some [.nilFunc] := by kernel_rfl
theorem ag74 : aggO Tryd.prog 74 = some false := by kernel_rfl
theorem by74 : bytesO Tryd.prog 74 = some 8 := by kernel_rfl
theorem sz74 : szO Tryd.prog 74 = some 1 := by kernel_rfl
theorem zc74 : zc Tryd.prog 74 = some [.nilFunc] := by kernel_rfl
theorem ag75 : aggO Tryd.prog 75 = some false := by kernel_rfl
theorem by75 : bytesO Tryd.prog 75 = some 8 := by kernel_rfl
theorem sz75 : szO Tryd.prog 75 = some 1 := by kernel_rfl
theorem zc75 : zc Tryd.prog 75 = some [.nilFunc] := by kernel_rfl
theorem ag76 : aggO Tryd.prog 76 = some false := by kernel_rfl
theorem by76 : bytesO Tryd.prog 76 = some 8 := by kernel_rfl
theorem sz76 : szO Tryd.prog 76 = some 1 := by kernel_rfl
theorem zc76 : zc Tryd.prog 76 = some [.nilFunc] := by kernel_rfl
theorem ag77 : aggO Tryd.prog 77 = some false := by kernel_rfl
theorem by77 : bytesO Tryd.prog 77 = some 8 := by kernel_rfl
theorem sz77 : szO Tryd.prog 77 = some 1 := by kernel_rfl
theorem zc77 : zc Tryd.prog 77 = some [.nilFunc] := by kernel_rfl
theorem ag78 : aggO Tryd.prog 78 = some false := by kernel_rfl
theorem by78 : bytesO Tryd.prog 78 = some 8 := by kernel_rfl
theorem sz78 : szO Tryd.prog 78 = some 1 := by kernel_rfl
theorem zc78 : zc Tryd.prog 78 = some [.nilFunc] := by kernel_rfl
theorem ag80 : aggO Tryd.prog 80 = some false := by kernel_rfl
theorem by80 : bytesO Tryd.prog 80 = some 8 := by kernel_rfl
theorem sz80 : szO Tryd.prog 80 = some 1 := by kernel_rfl
theorem zc80 : zc Tryd.prog 80 = some [.nilFunc] := by kernel_rfl
theorem ag81 : aggO Tryd.prog 81 = some false := by kernel_rfl
theorem by81 : bytesO Tryd.prog 81 = some 24 := by kernel_rfl
theorem sz81 : szO Tryd.prog 81 = some 1 := by kernel_rfl
theorem zc81 : zc Tryd.prog 81 = some [.slice none 0 0] := by kernel_rfl
theorem ag82 : aggO Tryd.prog 82 = some false := by kernel_rfl
theorem by82 : bytesO Tryd.prog 82 = some 8 := by kernel_rfl
theorem sz82 : szO Tryd.prog 82 = some 1 := by kernel_rfl
theorem zc82 : zc Tryd.prog 82 = some [.nilFunc] := by kernel_rfl
theorem ag83 : aggO Tryd.prog 83 = some false := by kernel_rfl
theorem by83 : bytesO Tryd.prog 83 = some 8 := by kernel_rfl
theorem sz83 : szO Tryd.prog 83 = some 1 := by kernel_rfl
theorem zc83 : zc Tryd.prog 83 = some [.nilFunc] := by kernel_rfl
theorem ag84 : aggO Tryd.prog 84 = some false := by kernel_rfl
theorem by84 : bytesO Tryd.prog 84 = some 8 := by kernel_rfl
theorem sz84 : szO Tryd.prog 84 = some 1 := by kernel_rfl
theorem zc84 : zc Tryd.prog 84 = some [.nilFunc] := by kernel_rfl
theorem ag85 : aggO Tryd.prog 85 = some false := by kernel_rfl
theorem by85 : bytesO Tryd.prog 85 = some 8 := by kernel_rfl
theorem sz85 : szO Tryd.prog 85 = some 1 := by kernel_rfl
theorem zc85 : zc Tryd.prog 85 = some [.pointer none] := by kernel_rfl
theorem ag86 : aggO Tryd.prog 86 = some false := by kernel_rfl
theorem by86 : bytesO Tryd.prog 86 = some 8 := by kernel_rfl
theorem sz86 : szO Tryd.prog 86 = some 1 := by kernel_rfl
theorem zc86 : zc Tryd.prog 86 = some [.nilFunc] := by kernel_rfl
theorem ag87 : aggO Tryd.prog 87 = some true := by kernel_rfl
theorem by87 : bytesO Tryd.prog 87 = some 40 := by kernel_rfl
theorem sz87 : szO Tryd.prog 87 = some 5 := by kernel_rfl
theorem zc87 : zc Tryd.prog 87 = some [.int .i64 0, .int .i64 0, .int .i64 0, .int .i64 0, .int .i64 0] := by kernel_rfl
theorem ag88 : aggO Tryd.prog 88 = some true := by kernel_rfl
theorem by88 : bytesO Tryd.prog 88 = some 96 := by kernel_rfl
theorem sz88 : szO Tryd.prog 88 = some 6 := by kernel_rfl
theorem zc88 : zc Tryd.prog 88 = some [.string ⟨#[]⟩, .string ⟨#[]⟩, .string ⟨#[]⟩, .string ⟨#[]⟩, .string ⟨#[]⟩, .string ⟨#[]⟩] := by kernel_rfl
theorem ag89 : aggO Tryd.prog 89 = some false := by kernel_rfl
theorem by89 : bytesO Tryd.prog 89 = some 8 := by kernel_rfl
theorem sz89 : szO Tryd.prog 89 = some 1 := by kernel_rfl
theorem zc89 : zc Tryd.prog 89 = some [.nilFunc] := by kernel_rfl
theorem ag91 : aggO Tryd.prog 91 = some false := by kernel_rfl
theorem by91 : bytesO Tryd.prog 91 = some 8 := by kernel_rfl
theorem sz91 : szO Tryd.prog 91 = some 1 := by kernel_rfl
theorem zc91 : zc Tryd.prog 91 = some [.nilFunc] := by kernel_rfl
theorem ag92 : aggO Tryd.prog 92 = some false := by kernel_rfl
theorem by92 : bytesO Tryd.prog 92 = some 8 := by kernel_rfl
theorem sz92 : szO Tryd.prog 92 = some 1 := by kernel_rfl
theorem zc92 : zc Tryd.prog 92 = some [.nilFunc] := by kernel_rfl
theorem ag93 : aggO Tryd.prog 93 = some false := by kernel_rfl
theorem by93 : bytesO Tryd.prog 93 = some 8 := by kernel_rfl
theorem sz93 : szO Tryd.prog 93 = some 1 := by kernel_rfl
theorem zc93 : zc Tryd.prog 93 = some [.nilFunc] := by kernel_rfl
theorem ag94 : aggO Tryd.prog 94 = some false := by kernel_rfl
theorem by94 : bytesO Tryd.prog 94 = some 24 := by kernel_rfl
theorem sz94 : szO Tryd.prog 94 = some 1 := by kernel_rfl
theorem zc94 : zc Tryd.prog 94 = some [.slice none 0 0] := by kernel_rfl
theorem ag95 : aggO Tryd.prog 95 = some false := by kernel_rfl
theorem by95 : bytesO Tryd.prog 95 = some 8 := by kernel_rfl
theorem sz95 : szO Tryd.prog 95 = some 1 := by kernel_rfl
theorem zc95 : zc Tryd.prog 95 = some [.nilFunc] := by kernel_rfl
theorem ag96 : aggO Tryd.prog 96 = some false := by kernel_rfl
theorem by96 : bytesO Tryd.prog 96 = some 8 := by kernel_rfl
theorem sz96 : szO Tryd.prog 96 = some 1 := by kernel_rfl
theorem zc96 : zc Tryd.prog 96 = some [.nilFunc] := by kernel_rfl
theorem ag98 : aggO Tryd.prog 98 = some false := by kernel_rfl
theorem by98 : bytesO Tryd.prog 98 = some 8 := by kernel_rfl
theorem sz98 : szO Tryd.prog 98 = some 1 := by kernel_rfl
theorem zc98 : zc Tryd.prog 98 = some [.nilFunc] := by kernel_rfl
theorem ag99 : aggO Tryd.prog 99 = some false := by kernel_rfl
theorem by99 : bytesO Tryd.prog 99 = some 8 := by kernel_rfl
theorem sz99 : szO Tryd.prog 99 = some 1 := by kernel_rfl
theorem zc99 : zc Tryd.prog 99 = some [.nilFunc] := by kernel_rfl
theorem ag100 : aggO Tryd.prog 100 = some true := by kernel_rfl
theorem by100 : bytesO Tryd.prog 100 = some 64 := by kernel_rfl
theorem sz100 : szO Tryd.prog 100 = some 64 := by kernel_rfl
theorem zc100 : zc Tryd.prog 100 = some (List.replicate 64 (.int .u8 0)) := by kernel_rfl
theorem ag101 : aggO Tryd.prog 101 = some false := by kernel_rfl
theorem by101 : bytesO Tryd.prog 101 = some 8 := by kernel_rfl
theorem sz101 : szO Tryd.prog 101 = some 1 := by kernel_rfl
theorem zc101 : zc Tryd.prog 101 = some [.int .u64 0] := by kernel_rfl
theorem ag102 : aggO Tryd.prog 102 = some false := by kernel_rfl
theorem by102 : bytesO Tryd.prog 102 = some 8 := by kernel_rfl
theorem sz102 : szO Tryd.prog 102 = some 1 := by kernel_rfl
theorem zc102 : zc Tryd.prog 102 = some [.nilFunc] := by kernel_rfl
theorem ag103 : aggO Tryd.prog 103 = some true := by kernel_rfl
theorem by103 : bytesO Tryd.prog 103 = some 40 := by kernel_rfl
theorem sz103 : szO Tryd.prog 103 = some 4 := by kernel_rfl
theorem zc103 : zc Tryd.prog 103 = some [.pointer none, .pointer none, .pointer none, .string ⟨#[]⟩] := by kernel_rfl
theorem ag104 : aggO Tryd.prog 104 = some true := by kernel_rfl
theorem by104 : bytesO Tryd.prog 104 = some 40 := by kernel_rfl
theorem sz104 : szO Tryd.prog 104 = some 4 := by kernel_rfl
theorem zc104 : zc Tryd.prog 104 = some [.pointer none, .pointer none, .pointer none, .string ⟨#[]⟩] := by kernel_rfl
theorem ag105 : aggO Tryd.prog 105 = some true := by kernel_rfl
theorem by105 : bytesO Tryd.prog 105 = some 0 := by kernel_rfl
theorem sz105 : szO Tryd.prog 105 = some 0 := by kernel_rfl
theorem zc105 : zc Tryd.prog 105 = some [] := by kernel_rfl
theorem ag106 : aggO Tryd.prog 106 = some true := by kernel_rfl
theorem by106 : bytesO Tryd.prog 106 = some 0 := by kernel_rfl
theorem sz106 : szO Tryd.prog 106 = some 0 := by kernel_rfl
theorem zc106 : zc Tryd.prog 106 = some [] := by kernel_rfl
theorem ag107 : aggO Tryd.prog 107 = some true := by kernel_rfl
theorem by107 : bytesO Tryd.prog 107 = some 0 := by kernel_rfl
theorem sz107 : szO Tryd.prog 107 = some 0 := by kernel_rfl
theorem zc107 : zc Tryd.prog 107 = some [] := by kernel_rfl
theorem ag108 : aggO Tryd.prog 108 = some false := by kernel_rfl
theorem by108 : bytesO Tryd.prog 108 = some 4 := by kernel_rfl
theorem sz108 : szO Tryd.prog 108 = some 1 := by kernel_rfl
theorem zc108 : zc Tryd.prog 108 = some [.int .u32 0] := by kernel_rfl
theorem ag109 : aggO Tryd.prog 109 = some false := by kernel_rfl
theorem by109 : bytesO Tryd.prog 109 = some 1 := by kernel_rfl
theorem sz109 : szO Tryd.prog 109 = some 1 := by kernel_rfl
theorem zc109 : zc Tryd.prog 109 = some [.int .u8 0] := by kernel_rfl
theorem ag110 : aggO Tryd.prog 110 = some false := by kernel_rfl
theorem by110 : bytesO Tryd.prog 110 = some 1 := by kernel_rfl
theorem sz110 : szO Tryd.prog 110 = some 1 := by kernel_rfl
theorem zc110 : zc Tryd.prog 110 = some [.int .u8 0] := by kernel_rfl
theorem ag111 : aggO Tryd.prog 111 = some false := by kernel_rfl
theorem by111 : bytesO Tryd.prog 111 = some 8 := by kernel_rfl
theorem sz111 : szO Tryd.prog 111 = some 1 := by kernel_rfl
theorem zc111 : zc Tryd.prog 111 = some [.nilFunc] := by kernel_rfl
theorem ag112 : aggO Tryd.prog 112 = some false := by kernel_rfl
theorem by112 : bytesO Tryd.prog 112 = some 8 := by kernel_rfl
theorem sz112 : szO Tryd.prog 112 = some 1 := by kernel_rfl
theorem zc112 : zc Tryd.prog 112 = some [.pointer none] := by kernel_rfl
theorem ag113 : aggO Tryd.prog 113 = some false := by kernel_rfl
theorem by113 : bytesO Tryd.prog 113 = some 4 := by kernel_rfl
theorem sz113 : szO Tryd.prog 113 = some 1 := by kernel_rfl
theorem zc113 : zc Tryd.prog 113 = some [.int .i32 0] := by kernel_rfl
theorem ag114 : aggO Tryd.prog 114 = some false := by kernel_rfl
theorem by114 : bytesO Tryd.prog 114 = some 4 := by kernel_rfl
theorem sz114 : szO Tryd.prog 114 = some 1 := by kernel_rfl
theorem zc114 : zc Tryd.prog 114 = some [.int .i32 0] := by kernel_rfl
theorem ag115 : aggO Tryd.prog 115 = some true := by kernel_rfl
theorem by115 : bytesO Tryd.prog 115 = some 48 := by kernel_rfl
theorem sz115 : szO Tryd.prog 115 = some 11 := by kernel_rfl
theorem zc115 : zc Tryd.prog 115 = some [.int .u64 0, .int .u64 0, .int .u32 0, .int .u8 0, .int .u8 0, .int .u8 0, .int .u8 0, .nilFunc, .pointer none, .int .i32 0, .int .i32 0] := by kernel_rfl
theorem ag116 : aggO Tryd.prog 116 = some true := by kernel_rfl
theorem by116 : bytesO Tryd.prog 116 = some 48 := by kernel_rfl
theorem sz116 : szO Tryd.prog 116 = some 11 := by kernel_rfl
theorem zc116 : zc Tryd.prog 116 = some [.int .u64 0, .int .u64 0, .int .u32 0, .int .u8 0, .int .u8 0, .int .u8 0, .int .u8 0, .nilFunc, .pointer none, .int .i32 0, .int .i32 0] := by kernel_rfl
theorem ag117 : aggO Tryd.prog 117 = some false := by kernel_rfl
theorem by117 : bytesO Tryd.prog 117 = some 8 := by kernel_rfl
theorem sz117 : szO Tryd.prog 117 = some 1 := by kernel_rfl
theorem zc117 : zc Tryd.prog 117 = some [.pointer none] := by kernel_rfl
end Go.Proofs.YtcjnmmeibppblaaDoor.T
